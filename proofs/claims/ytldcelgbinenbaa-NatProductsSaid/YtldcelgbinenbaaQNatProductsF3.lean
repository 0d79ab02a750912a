import Derived.Test.YtldcelgbinenbaaQNatProductsF2
namespace Go.Proofs.Ytldcelgbinenbaa.Px
open Go.RowKit Go.Proofs.YtldcelgbinenbaaW.PrintWords Go.Proofs.YtldcelgbinenbaaW.PrintLast Go.Proofs.YtldcelgbinenbaaW.PrintMore
attribute [local go_sem] max2_int min2_int max_two min_two max_three min_three max_four min_four   -- for this text's walks alone
set_option linter.unusedVariables false
set_option linter.unusedSimpArgs false

/-! ### cutplaneref01_Sub: function 26 -/
def cutplaneref01_Sub.l0 : Nat → List Int → List Int → List Int → Int → Int → Option (List Int)
 | 0, _, _, _, _, _ => none
 | k + 1, x0, x1, x5, x6, x7 => if x7 < (x0.length : Int) then (if x7 < (x1.length : Int) then (if 0 ≤ x7 then (if (IntKind.u64.wrap (rd x0 x7)) < (IntKind.u64.wrap (x6 + (IntKind.u64.wrap (rd x1 x7)))) then (if x5.length < 35184372088832 then (cutplaneref01_Sub.l0 k x0 x1 (x5 ++ [(IntKind.u64.wrap ((IntKind.u64.wrap ((IntKind.u64.wrap (rd x0 x7)) + 4294967296)) - (IntKind.u64.wrap (x6 + (IntKind.u64.wrap (rd x1 x7)))))) % 4294967296]) 1 (wrap64 (x7 + 1))) else (none)) else (if x5.length < 35184372088832 then (cutplaneref01_Sub.l0 k x0 x1 (x5 ++ [(IntKind.u64.wrap ((IntKind.u64.wrap (rd x0 x7)) - (IntKind.u64.wrap (x6 + (IntKind.u64.wrap (rd x1 x7)))))) % 4294967296]) 0 (wrap64 (x7 + 1))) else (none))) else (none)) else (if 0 ≤ x7 then (if (IntKind.u64.wrap (rd x0 x7)) < x6 then (if x5.length < 35184372088832 then (cutplaneref01_Sub.l0 k x0 x1 (x5 ++ [(IntKind.u64.wrap ((IntKind.u64.wrap ((IntKind.u64.wrap (rd x0 x7)) + 4294967296)) - x6)) % 4294967296]) 1 (wrap64 (x7 + 1))) else (none)) else (if x5.length < 35184372088832 then (cutplaneref01_Sub.l0 k x0 x1 (x5 ++ [(IntKind.u64.wrap ((IntKind.u64.wrap (rd x0 x7)) - x6)) % 4294967296]) 0 (wrap64 (x7 + 1))) else (none))) else (none))) else ((cutplaneref01_Trim.f k x5).bind fun t233 => (some t233))
def cutplaneref01_Sub.f (k : Nat) (l0 : List Int) (l1 : List Int) : Option (List Int) := cutplaneref01_Sub.l0 k l0 l1 ([] : List Int) 0 0
theorem cutplaneref01_Sub.mono_l : ∀ k, (∀ y0 y1 y2 y3 y4, LeO (cutplaneref01_Sub.l0 k y0 y1 y2 y3 y4) (cutplaneref01_Sub.l0 (k + 1) y0 y1 y2 y3 y4))
 | 0 => fun _ _ _ _ _ r h => by simp [cutplaneref01_Sub.l0] at h
 | k + 1 => by
  have ih0 := cutplaneref01_Sub.mono_l k
  ·intro y0 y1 y2 y3 y4
   unfold cutplaneref01_Sub.l0
   repeat' (with_reducible first | exact ih0 _ _ _ _ _ | exact cutplaneref01_Trim.mono _ _ | exact LeO.refl _ | exact LeO.none _ | refine LeO.ite ?_ ?_ | refine LeO.bind ?_ (fun _ => ?_))
theorem cutplaneref01_Sub.mono : ∀ a0 a1 k, LeO (cutplaneref01_Sub.f k a0 a1) (cutplaneref01_Sub.f (k + 1) a0 a1) := by
 intro a0 a1 k
 have ih0 := cutplaneref01_Sub.mono_l k
 unfold cutplaneref01_Sub.f
 repeat' (with_reducible first | exact ih0 _ _ _ _ _ | exact cutplaneref01_Trim.mono _ _ | exact LeO.refl _ | exact LeO.none _ | refine LeO.ite ?_ ?_ | refine LeO.bind ?_ (fun _ => ?_))
set_option maxHeartbeats 8000000 in
set_option maxRecDepth 100000 in
theorem cutplaneref01_Sub.calls (k : Nat) (A0 : Option Addr) (c0 : Nat) (l0 : List Int) (A1 : Option Addr) (c1 : Nat) (l1 : List Int) (r : List Int) (w : World) (hr0 : Kd.C (Kd.int .u32) w A0 l0.length l0) (hc0 : l0.length ≤ c0) (hr1 : Kd.C (Kd.int .u32) w A1 l1.length l1) (hc1 : l1.length ≤ c1) (h : cutplaneref01_Sub.f k l0 l1 = some r) :
  Calls Try.prog 26 #[.slice A0 l0.length c0, .slice A1 l1.length c1] w fun e w' => ∃ v0_ : Value, e = .returned (v0_) ∧ Kd.R (Kd.int .u32) 42 w' w.heap.size (fun _ => True) v0_ r ∧ Below w.heap.size w w' := by
 have HR0 := Aside0.mk hr0
 have HC0 := Aside0.mk hc0
 clear hr0 hc0
 have HR1 := Aside0.mk hr1
 have HC1 := Aside0.mk hc1
 clear hr1 hc1
 have HB := Aside0.mk (Below.refl w.heap.size w)
 have H := h
 unfold cutplaneref01_Sub.f at H
 clear h
 have H' := Aside0.mk H
 clear H
 go_enter Try.func26, Try.ntmps26
 go_wp2
 go_loopg [5, 6, 7] k (fun kq v5 v6 v7 w' => ∃ (x5_1 : List Int) (x6_1 : Int) (x7_1 : Int), v6 = .int .u64 x6_1 ∧ v7 = .int .i64 x7_1 ∧ Aside0 (cutplaneref01_Sub.l0 kq l0 l1 x5_1 x6_1 x7_1 = some r) ∧ Aside0 (kq ≤ k) ∧ Aside0 (Kd.R (Kd.int .u32) 42 w' w.heap.size (fun _ => True) v5 x5_1) ∧ Aside0 (Below w.heap.size w w'))
 case atStart => exact ⟨(([] : List Int)), (0), (0), es, es, H', ⟨Nat.le_refl _⟩, ⟨by first | exact Kd.R_nil _ _ _ _ _ | exact Kd.N_nil _ _ _ _ _ | exact Kd.V_nil _ _ _ _ _ | exact Kd.Q_nil _ _ _ _ _ | exact Kd.S_nil _ _ _ _ _⟩, ⟨bU HB⟩⟩
 case round =>
  clear H'
  try clear c1; try clear c2; try clear p2
  obtain ⟨x5_1, x6_1, x7_1, rfl, rfl, HA, HK1, HO_5, HB⟩ := hrel
  cases gk with
  | zero => exact absurd HA.out (by simp [cutplaneref01_Sub.l0])
  | succ k1 =>
   have H := HA.out
   clear HA
   simp only [cutplaneref01_Sub.l0] at H
   by_cases c3 : x7_1 < (l0.length : Int)
   ·rw [if_pos c3] at H
    have c3b0 := decide_eq_true c3
    clear c3
    by_cases c4 : x7_1 < (l1.length : Int)
    ·rw [if_pos c4] at H
     have c4b0 := decide_eq_true c4
     clear c4
     by_cases c5 : 0 ≤ x7_1
     ·rw [if_pos c5] at H
      have c5b0 := decide_eq_true c5
      clear c5
      by_cases c6 : (IntKind.u64.wrap (rd l0 x7_1)) < (IntKind.u64.wrap (x6_1 + (IntKind.u64.wrap (rd l1 x7_1))))
      ·rw [if_pos c6] at H
       have c6b0 := decide_eq_true c6
       clear c6
       by_cases c7 : x5_1.length < 35184372088832
       ·rw [if_pos c7] at H
        have LMc7 := Aside0.mk c7
        clear c7
        obtain ⟨y238, hy238⟩ : ∃ y_ : List Int, y_ = (x5_1 ++ [(IntKind.u64.wrap ((IntKind.u64.wrap ((IntKind.u64.wrap (rd l0 x7_1)) + 4294967296)) - (IntKind.u64.wrap (x6_1 + (IntKind.u64.wrap (rd l1 x7_1)))))) % 4294967296]) := ⟨_, rfl⟩
        try rw [← hy238] at H
        have Ny238 := Aside0.mk hy238
        clear hy238
        have H' := Aside0.mk H
        clear H
        have p236 : 0 ≤ (x7_1 : Int) := of_decide_eq_true (by first | (with_reducible assumption) | assumption)
        have q236 : x7_1 < (l1.length : Int) := of_decide_eq_true (by first | (with_reducible assumption) | assumption)
        obtain ⟨ad236, e236, hx236_0⟩ := Kd.at_int HR1.out x7_1 p236 q236
        cases e236
        replace hx236_0 := (HB.out.cell (World.block_lt_of_cell? w _ hx236_0)).trans hx236_0
        replace p236 := eq_true p236
        replace q236 := eq_true q236
        have p237 : 0 ≤ (x7_1 : Int) := of_decide_eq_true (by first | (with_reducible assumption) | assumption)
        have q237 : x7_1 < (l0.length : Int) := of_decide_eq_true (by first | (with_reducible assumption) | assumption)
        obtain ⟨ad237, e237, hx237_0⟩ := Kd.at_int HR0.out x7_1 p237 q237
        cases e237
        replace hx237_0 := (HB.out.cell (World.block_lt_of_cell? w _ hx237_0)).trans hx237_0
        replace p237 := eq_true p237
        replace q237 := eq_true q237
        go_wp2_with (first | ((with_reducible refine gate_builtin (b := .append) (xs := #[.tmp 38, .tmp 43]) rfl ?_); at_builtin; refine Kd.R_append (Kd.int .u32) (w0 := w) w.heap.size rfl (.tmp 38) (.tmp 43) 22 42 (.int .u32 0) 4 rfl Try.underlying22 info42 rfl (by decide) (by omega) u5 x5_1 ((IntKind.u64.wrap ((IntKind.u64.wrap ((IntKind.u64.wrap (rd l0 x7_1)) + 4294967296)) - (IntKind.u64.wrap (x6_1 + (IntKind.u64.wrap (rd l1 x7_1)))))) % 4294967296) [.int .u32 ((IntKind.u64.wrap ((IntKind.u64.wrap ((IntKind.u64.wrap (rd l0 x7_1)) + 4294967296)) - (IntKind.u64.wrap (x6_1 + (IntKind.u64.wrap (rd l1 x7_1)))))) % 4294967296)] (fun _ => True) (fun _ => False) rfl rfl ?aP (fun _ hk => hk.elim) ?aF ?aO ?aB ?aS ?aL ?_; (case aP => exact rfl); (case aB => exact (bU HB)); (case aF => exact (fun _ _ => trivial)); (case aO => exact (rU HO_5)); (case aS => exact (below_size (bU HB))); (case aL => have := LMc7.out; omega); intro v239 w8 ho hb hg hat; rw [← Ny238.out] at ho; replace HB := Aside0.mk (hb); have HO240 := Aside0.mk (ho); clear HO_5; clear ho hb hg hat))
        go_roundg k1
        case measure => have := HK1.out; omega
        case rel => exact ⟨(y238), (1), (wrap64 (x7_1 + 1)), es, es, H', ⟨by have := HK1.out; omega⟩, ⟨rU HO240⟩, ⟨bU HB⟩⟩
       ·rw [if_neg c7] at H
        exact absurd H (by simp)
      ·rw [if_neg c6] at H
       have c6b0 := decide_eq_false c6
       clear c6
       by_cases c9 : x5_1.length < 35184372088832
       ·rw [if_pos c9] at H
        have LMc9 := Aside0.mk c9
        clear c9
        obtain ⟨y241, hy241⟩ : ∃ y_ : List Int, y_ = (x5_1 ++ [(IntKind.u64.wrap ((IntKind.u64.wrap (rd l0 x7_1)) - (IntKind.u64.wrap (x6_1 + (IntKind.u64.wrap (rd l1 x7_1)))))) % 4294967296]) := ⟨_, rfl⟩
        try rw [← hy241] at H
        have Ny241 := Aside0.mk hy241
        clear hy241
        have H' := Aside0.mk H
        clear H
        have p236 : 0 ≤ (x7_1 : Int) := of_decide_eq_true (by first | (with_reducible assumption) | assumption)
        have q236 : x7_1 < (l1.length : Int) := of_decide_eq_true (by first | (with_reducible assumption) | assumption)
        obtain ⟨ad236, e236, hx236_0⟩ := Kd.at_int HR1.out x7_1 p236 q236
        cases e236
        replace hx236_0 := (HB.out.cell (World.block_lt_of_cell? w _ hx236_0)).trans hx236_0
        replace p236 := eq_true p236
        replace q236 := eq_true q236
        have p237 : 0 ≤ (x7_1 : Int) := of_decide_eq_true (by first | (with_reducible assumption) | assumption)
        have q237 : x7_1 < (l0.length : Int) := of_decide_eq_true (by first | (with_reducible assumption) | assumption)
        obtain ⟨ad237, e237, hx237_0⟩ := Kd.at_int HR0.out x7_1 p237 q237
        cases e237
        replace hx237_0 := (HB.out.cell (World.block_lt_of_cell? w _ hx237_0)).trans hx237_0
        replace p237 := eq_true p237
        replace q237 := eq_true q237
        go_wp2_with (first | ((with_reducible refine gate_builtin (b := .append) (xs := #[.tmp 38, .tmp 43]) rfl ?_); at_builtin; refine Kd.R_append (Kd.int .u32) (w0 := w) w.heap.size rfl (.tmp 38) (.tmp 43) 22 42 (.int .u32 0) 4 rfl Try.underlying22 info42 rfl (by decide) (by omega) u5 x5_1 ((IntKind.u64.wrap ((IntKind.u64.wrap (rd l0 x7_1)) - (IntKind.u64.wrap (x6_1 + (IntKind.u64.wrap (rd l1 x7_1)))))) % 4294967296) [.int .u32 ((IntKind.u64.wrap ((IntKind.u64.wrap (rd l0 x7_1)) - (IntKind.u64.wrap (x6_1 + (IntKind.u64.wrap (rd l1 x7_1)))))) % 4294967296)] (fun _ => True) (fun _ => False) rfl rfl ?aP (fun _ hk => hk.elim) ?aF ?aO ?aB ?aS ?aL ?_; (case aP => exact rfl); (case aB => exact (bU HB)); (case aF => exact (fun _ _ => trivial)); (case aO => exact (rU HO_5)); (case aS => exact (below_size (bU HB))); (case aL => have := LMc9.out; omega); intro v242 w10 ho hb hg hat; rw [← Ny241.out] at ho; replace HB := Aside0.mk (hb); have HO243 := Aside0.mk (ho); clear HO_5; clear ho hb hg hat))
        go_roundg k1
        case measure => have := HK1.out; omega
        case rel => exact ⟨(y241), (0), (wrap64 (x7_1 + 1)), es, es, H', ⟨by have := HK1.out; omega⟩, ⟨rU HO243⟩, ⟨bU HB⟩⟩
       ·rw [if_neg c9] at H
        exact absurd H (by simp)
     ·rw [if_neg c5] at H
      exact absurd H (by simp)
    ·rw [if_neg c4] at H
     have c4b0 := decide_eq_false c4
     clear c4
     by_cases c11 : 0 ≤ x7_1
     ·rw [if_pos c11] at H
      have c11b0 := decide_eq_true c11
      clear c11
      by_cases c12 : (IntKind.u64.wrap (rd l0 x7_1)) < x6_1
      ·rw [if_pos c12] at H
       have c12b0 := decide_eq_true c12
       clear c12
       by_cases c13 : x5_1.length < 35184372088832
       ·rw [if_pos c13] at H
        have LMc13 := Aside0.mk c13
        clear c13
        obtain ⟨y245, hy245⟩ : ∃ y_ : List Int, y_ = (x5_1 ++ [(IntKind.u64.wrap ((IntKind.u64.wrap ((IntKind.u64.wrap (rd l0 x7_1)) + 4294967296)) - x6_1)) % 4294967296]) := ⟨_, rfl⟩
        try rw [← hy245] at H
        have Ny245 := Aside0.mk hy245
        clear hy245
        have H' := Aside0.mk H
        clear H
        have p244 : 0 ≤ (x7_1 : Int) := of_decide_eq_true (by first | (with_reducible assumption) | assumption)
        have q244 : x7_1 < (l0.length : Int) := of_decide_eq_true (by first | (with_reducible assumption) | assumption)
        obtain ⟨ad244, e244, hx244_0⟩ := Kd.at_int HR0.out x7_1 p244 q244
        cases e244
        replace hx244_0 := (HB.out.cell (World.block_lt_of_cell? w _ hx244_0)).trans hx244_0
        replace p244 := eq_true p244
        replace q244 := eq_true q244
        go_wp2_with (first | ((with_reducible refine gate_builtin (b := .append) (xs := #[.tmp 38, .tmp 43]) rfl ?_); at_builtin; refine Kd.R_append (Kd.int .u32) (w0 := w) w.heap.size rfl (.tmp 38) (.tmp 43) 22 42 (.int .u32 0) 4 rfl Try.underlying22 info42 rfl (by decide) (by omega) u5 x5_1 ((IntKind.u64.wrap ((IntKind.u64.wrap ((IntKind.u64.wrap (rd l0 x7_1)) + 4294967296)) - x6_1)) % 4294967296) [.int .u32 ((IntKind.u64.wrap ((IntKind.u64.wrap ((IntKind.u64.wrap (rd l0 x7_1)) + 4294967296)) - x6_1)) % 4294967296)] (fun _ => True) (fun _ => False) rfl rfl ?aP (fun _ hk => hk.elim) ?aF ?aO ?aB ?aS ?aL ?_; (case aP => exact rfl); (case aB => exact (bU HB)); (case aF => exact (fun _ _ => trivial)); (case aO => exact (rU HO_5)); (case aS => exact (below_size (bU HB))); (case aL => have := LMc13.out; omega); intro v246 w14 ho hb hg hat; rw [← Ny245.out] at ho; replace HB := Aside0.mk (hb); have HO247 := Aside0.mk (ho); clear HO_5; clear ho hb hg hat))
        go_roundg k1
        case measure => have := HK1.out; omega
        case rel => exact ⟨(y245), (1), (wrap64 (x7_1 + 1)), es, es, H', ⟨by have := HK1.out; omega⟩, ⟨rU HO247⟩, ⟨bU HB⟩⟩
       ·rw [if_neg c13] at H
        exact absurd H (by simp)
      ·rw [if_neg c12] at H
       have c12b0 := decide_eq_false c12
       clear c12
       by_cases c15 : x5_1.length < 35184372088832
       ·rw [if_pos c15] at H
        have LMc15 := Aside0.mk c15
        clear c15
        obtain ⟨y248, hy248⟩ : ∃ y_ : List Int, y_ = (x5_1 ++ [(IntKind.u64.wrap ((IntKind.u64.wrap (rd l0 x7_1)) - x6_1)) % 4294967296]) := ⟨_, rfl⟩
        try rw [← hy248] at H
        have Ny248 := Aside0.mk hy248
        clear hy248
        have H' := Aside0.mk H
        clear H
        have p244 : 0 ≤ (x7_1 : Int) := of_decide_eq_true (by first | (with_reducible assumption) | assumption)
        have q244 : x7_1 < (l0.length : Int) := of_decide_eq_true (by first | (with_reducible assumption) | assumption)
        obtain ⟨ad244, e244, hx244_0⟩ := Kd.at_int HR0.out x7_1 p244 q244
        cases e244
        replace hx244_0 := (HB.out.cell (World.block_lt_of_cell? w _ hx244_0)).trans hx244_0
        replace p244 := eq_true p244
        replace q244 := eq_true q244
        go_wp2_with (first | ((with_reducible refine gate_builtin (b := .append) (xs := #[.tmp 38, .tmp 43]) rfl ?_); at_builtin; refine Kd.R_append (Kd.int .u32) (w0 := w) w.heap.size rfl (.tmp 38) (.tmp 43) 22 42 (.int .u32 0) 4 rfl Try.underlying22 info42 rfl (by decide) (by omega) u5 x5_1 ((IntKind.u64.wrap ((IntKind.u64.wrap (rd l0 x7_1)) - x6_1)) % 4294967296) [.int .u32 ((IntKind.u64.wrap ((IntKind.u64.wrap (rd l0 x7_1)) - x6_1)) % 4294967296)] (fun _ => True) (fun _ => False) rfl rfl ?aP (fun _ hk => hk.elim) ?aF ?aO ?aB ?aS ?aL ?_; (case aP => exact rfl); (case aB => exact (bU HB)); (case aF => exact (fun _ _ => trivial)); (case aO => exact (rU HO_5)); (case aS => exact (below_size (bU HB))); (case aL => have := LMc15.out; omega); intro v249 w16 ho hb hg hat; rw [← Ny248.out] at ho; replace HB := Aside0.mk (hb); have HO250 := Aside0.mk (ho); clear HO_5; clear ho hb hg hat))
        go_roundg k1
        case measure => have := HK1.out; omega
        case rel => exact ⟨(y248), (0), (wrap64 (x7_1 + 1)), es, es, H', ⟨by have := HK1.out; omega⟩, ⟨rU HO250⟩, ⟨bU HB⟩⟩
       ·rw [if_neg c15] at H
        exact absurd H (by simp)
     ·rw [if_neg c11] at H
      exact absurd H (by simp)
   ·rw [if_neg c3] at H
    have c3b0 := decide_eq_false c3
    clear c3
    replace H := oc H
    obtain ⟨t233, A17, H⟩ := H
    obtain rfl := Option.some.inj H
    obtain ⟨Ao18, co18, eo18⟩ := Kd.R_slice HO_5.out
    subst eo18
    go_wp2_with (first | ((with_reducible refine gc 42 rfl ?_); refine gL (some 46) Try.func42 #[.slice Ao18 x5_1.length co18] ?_; (with_reducible refine (cutplaneref01_Trim.calls k1 (fun k_ => some k_ = (.slice Ao18 x5_1.length co18 : Value).ownBlock) (.slice Ao18 x5_1.length co18) x5_1 t233 w _ ?side1 ?side2 A17.out).mono ?_); (case side1 => exact bU HB); (case side2 => exact Kd.R_tight rfl HO_5.out); rintro e w19 ⟨v234, rfl, ho0, hb, hkp⟩; refine ⟨_, rfl, ?_⟩; have HO235 := Aside0.mk (Kd.R_mono (ok' := fun k_ => True) ho0 (fun k_ hk_ => trivial)); replace HB := Aside0.mk (hb); clear HO_5; clear hb hkp ho0))
    go_ret
    exact ⟨_, by first | rfl | (simp [errW_none, errW_some] <;> rfl) | (simp [*, errW_none, errW_some] <;> rfl), rU HO235, bU HB⟩

end Go.Proofs.Ytldcelgbinenbaa.Px

namespace Go.Proofs.Ytldcelgbinenbaa.Px
open Go.RowKit Go.Proofs.YtldcelgbinenbaaW.PrintWords Go.Proofs.YtldcelgbinenbaaW.PrintLast Go.Proofs.YtldcelgbinenbaaW.PrintMore
attribute [local go_sem] max2_int min2_int max_two min_two max_three min_three max_four min_four   -- for this text's walks alone
set_option linter.unusedVariables false
set_option linter.unusedSimpArgs false

/-! ### cutplaneref01_Len: function 50 -/
def cutplaneref01_Len.l0 : Nat → Int → Int → Option (Int)
 | 0, _, _ => none
 | k + 1, x3, x4 => if x4 > 0 then (cutplaneref01_Len.l0 k (wrap64 (x3 + 1)) (x4 / 2)) else (some x3)
def cutplaneref01_Len.f (k : Nat) (l0 : List Int) : Option (Int) := if (l0.length : Int) = 0 then (some 0) else (if 0 ≤ (wrap64 ((l0.length : Int) - 1)) then (if (wrap64 ((l0.length : Int) - 1)) < (l0.length : Int) then (cutplaneref01_Len.l0 k (wrap64 (32 * (wrap64 ((l0.length : Int) - 1)))) (rd l0 (wrap64 ((l0.length : Int) - 1)))) else (none)) else (none))
theorem cutplaneref01_Len.mono_l : ∀ k, (∀ y0 y1, LeO (cutplaneref01_Len.l0 k y0 y1) (cutplaneref01_Len.l0 (k + 1) y0 y1))
 | 0 => fun _ _ r h => by simp [cutplaneref01_Len.l0] at h
 | k + 1 => by
  have ih0 := cutplaneref01_Len.mono_l k
  ·intro y0 y1
   unfold cutplaneref01_Len.l0
   repeat' (with_reducible first | exact ih0 _ _ | exact LeO.refl _ | exact LeO.none _ | refine LeO.ite ?_ ?_ | refine LeO.bind ?_ (fun _ => ?_))
theorem cutplaneref01_Len.mono : ∀ a0 k, LeO (cutplaneref01_Len.f k a0) (cutplaneref01_Len.f (k + 1) a0) := by
 intro a0 k
 have ih0 := cutplaneref01_Len.mono_l k
 unfold cutplaneref01_Len.f
 repeat' (with_reducible first | exact ih0 _ _ | exact LeO.refl _ | exact LeO.none _ | refine LeO.ite ?_ ?_ | refine LeO.bind ?_ (fun _ => ?_))
set_option maxHeartbeats 8000000 in
set_option maxRecDepth 100000 in
theorem cutplaneref01_Len.calls (k : Nat) (A0 : Option Addr) (c0 : Nat) (l0 : List Int) (r : Int) (w : World) (hr0 : Kd.C (Kd.int .u32) w A0 l0.length l0) (hc0 : l0.length ≤ c0) (h : cutplaneref01_Len.f k l0 = some r) :
  Calls Try.prog 50 #[.slice A0 l0.length c0] w fun e w' => e = .returned (.int .i64 r) ∧ Drawn0 w w' := by
 have HR0 := Aside0.mk hr0
 have HC0 := Aside0.mk hc0
 clear hr0 hc0
 have H := h
 unfold cutplaneref01_Len.f at H
 clear h
 by_cases c2 : (l0.length : Int) = 0
 ·rw [if_pos c2] at H
  have c2b0 : ((l0.length : Int) == 0) = true := beq_iff_eq.mpr c2
  have c2b1 : ((l0.length : Int) != 0) = false := bne_eq_false_iff_eq.mpr c2
  clear c2
  obtain rfl := Option.some.inj H
  go_enter Try.func50, Try.ntmps50
  go_wp2
  go_ret
  exact ⟨by first | rfl | (simp; done) | (simp [*]; done), by repeat (first | exact Drawn0.refl _ | apply Drawn0.step)⟩
 ·rw [if_neg c2] at H
  have c2b0 : ((l0.length : Int) == 0) = false := beq_eq_false_iff_ne.mpr c2
  have c2b1 : ((l0.length : Int) != 0) = true := bne_iff_ne.mpr c2
  have c2b2 : ¬ (l0 = []) := fun h_ => c2 (by rw [h_]; rfl)
  obtain ⟨ji3, hji3⟩ : ∃ j_ : Int, (wrap64 ((l0.length : Int) - 1)) = j_ := ⟨_, rfl⟩
  (first | rw [hji3] at H | simp only [hji3] at H)
  have hji3w : (IntKind.i64.wrap ((l0.length : Int) - 1)) = ji3 := (i64_w _).trans hji3
  by_cases c4 : 0 ≤ (ji3)
  ·rw [if_pos c4] at H
   have c4b0 := decide_eq_true c4
   clear c4
   by_cases c5 : (ji3) < (l0.length : Int)
   ·rw [if_pos c5] at H
    have c5b0 := decide_eq_true c5
    clear c5
    have H' := Aside0.mk H
    clear H
    have p417 : 0 ≤ ((ji3) : Int) := of_decide_eq_true (by first | (with_reducible assumption) | assumption)
    have q417 : (ji3) < (l0.length : Int) := of_decide_eq_true (by first | (with_reducible assumption) | assumption)
    obtain ⟨ad417, e417, hx417_0⟩ := Kd.at_int HR0.out (ji3) p417 q417
    cases e417
    replace p417 := eq_true p417
    replace q417 := eq_true q417
    go_enter Try.func50, Try.ntmps50
    go_wp2
    go_loopg [3, 4] k (fun kq v3 v4 w' => ∃ (x3_1 : Int) (x4_1 : Int), v3 = .int .i64 x3_1 ∧ v4 = .int .u32 x4_1 ∧ Aside0 (cutplaneref01_Len.l0 kq x3_1 x4_1 = some r) ∧ Aside0 (kq ≤ k) ∧ Drawn0 w w')
    case atStart => exact ⟨(wrap64 (32 * (ji3))), (rd l0 (ji3)), (by first | rfl | (simp; done) | (simp only [← hji3] <;> (first | rfl | simp)) | (simp [*]; done)), (by first | rfl | (simp; done) | (simp only [← hji3] <;> (first | rfl | simp)) | (simp [*]; done)), H', ⟨Nat.le_refl _⟩, by repeat (first | exact Drawn0.refl _ | apply Drawn0.step)⟩
    case round =>
     clear H'
     try clear c2; try clear c2b0; try clear c2b1; try clear c2b2; try clear p2; try clear c4; try clear c4b0; try clear p4; try clear q4; try clear hx4; try clear c5; try clear c5b0; try clear hx417_0; try clear p417; try clear q417
     obtain ⟨x3_1, x4_1, rfl, rfl, HA, HK1, ⟨m1, rfl⟩⟩ := hrel
     cases gk with
     | zero => exact absurd HA.out (by simp [cutplaneref01_Len.l0])
     | succ k1 =>
      have H := HA.out
      clear HA
      simp only [cutplaneref01_Len.l0] at H
      by_cases c6 : x4_1 > 0
      ·rw [if_pos c6] at H
       have c6b0 : decide (0 < x4_1) = true := decide_eq_true c6
       clear c6
       have H' := Aside0.mk H
       clear H
       go_wp2
       go_roundg k1
       case measure => have := HK1.out; omega
       case rel => exact ⟨(wrap64 (x3_1 + 1)), (x4_1 / 2), es, es, H', ⟨by have := HK1.out; omega⟩, by repeat (first | exact Drawn0.refl _ | apply Drawn0.step)⟩
      ·rw [if_neg c6] at H
       have c6b0 : decide (0 < x4_1) = false := decide_eq_false c6
       clear c6
       obtain rfl := Option.some.inj H
       go_wp2
       go_ret
       exact ⟨by first | rfl | (simp; done) | (simp only [← hji3] <;> (first | rfl | simp)) | (simp [*]; done), by repeat (first | exact Drawn0.refl _ | apply Drawn0.step)⟩
   ·rw [if_neg c5] at H
    exact absurd H (by simp)
  ·rw [if_neg c4] at H
   exact absurd H (by simp)

end Go.Proofs.Ytldcelgbinenbaa.Px

namespace Go.Proofs.Ytldcelgbinenbaa.Px
open Go.RowKit Go.Proofs.YtldcelgbinenbaaW.PrintWords Go.Proofs.YtldcelgbinenbaaW.PrintLast Go.Proofs.YtldcelgbinenbaaW.PrintMore
attribute [local go_sem] max2_int min2_int max_two min_two max_three min_three max_four min_four   -- for this text's walks alone
set_option linter.unusedVariables false
set_option linter.unusedSimpArgs false

/-! ### cutplaneref01_Of: function 19 -/
def cutplaneref01_Of.f (k : Nat) (a0 : Int) : Option (List Int) := (cutplaneref01_Trim.f k (([(a0) % 4294967296, (a0 / 4294967296) % 4294967296] : List Int))).bind fun t171 => (some t171)
theorem cutplaneref01_Of.mono : ∀ a0 k, LeO (cutplaneref01_Of.f k a0) (cutplaneref01_Of.f (k + 1) a0) := by
 intro a0 k
 unfold cutplaneref01_Of.f
 repeat' (with_reducible first | exact cutplaneref01_Trim.mono _ _ | exact LeO.refl _ | exact LeO.none _ | refine LeO.ite ?_ ?_ | refine LeO.bind ?_ (fun _ => ?_))
set_option maxHeartbeats 8000000 in
set_option maxRecDepth 100000 in
theorem cutplaneref01_Of.calls (k : Nat) (a0 : Int) (r : List Int) (w : World) (h : cutplaneref01_Of.f k a0 = some r) :
  Calls Try.prog 19 #[.int .u64 a0] w fun e w' => ∃ v0_ : Value, e = .returned (v0_) ∧ Kd.R (Kd.int .u32) 42 w' w.heap.size (fun _ => True) v0_ r ∧ Below w.heap.size w w' := by
 have HB := Aside0.mk (Below.refl w.heap.size w)
 have H := h
 unfold cutplaneref01_Of.f at H
 clear h
 obtain ⟨y168, hy168⟩ : ∃ y_ : List Int, y_ = (([(a0) % 4294967296, (a0 / 4294967296) % 4294967296] : List Int)) := ⟨_, rfl⟩
 replace H : ((cutplaneref01_Trim.f k y168).bind fun t171 => (some t171)) = some r := by first | (rw [hy168]; with_reducible exact H) | (have H2_ := (Option.bind_some _ _).symm.trans H; rw [hy168]; with_reducible exact H2_) | (have H2_ := (Option.bind_some _ _).symm.trans H; with_reducible exact H2_) | with_reducible exact H | (rw [hy168]; exact H) | exact H
 have Ny168 := Aside0.mk hy168
 clear hy168
 replace H := oc H
 obtain ⟨t171, A2, H⟩ := H
 obtain rfl := Option.some.inj H
 go_enter Try.func19, Try.ntmps19
 go_wp2_with (first | ((with_reducible refine gate_dst (N := 8) rfl ?_); refine Kd.R_lit (Kd.int .u32) _ 42 ?hg (N := 8) ?hd (xs := ([(a0) % 4294967296, (a0 / 4294967296) % 4294967296] : List Int)) (inner := [.int .u32 ((a0) % 4294967296), .int .u32 ((a0 / 4294967296) % 4294967296)]) (ok := fun _ => True) (okp := fun _ => True) ?hr ?hp (fun _ hk => hk) trivial (Below.refl _ _) (Nat.le_refl _) (by simp) ?_; (case hd => rfl); (case hg => rfl); (case hr => first | (go_simp; done) | (go_simp; rfl)); (case hp => exact (Reps.one (show Kd.M (Kd.int .u32) _ _ _ ((a0) % 4294967296) [.int .u32 ((a0) % 4294967296)] from rfl) (Reps.one (show Kd.M (Kd.int .u32) _ _ _ ((a0 / 4294967296) % 4294967296) [.int .u32 ((a0 / 4294967296) % 4294967296)] from rfl) (Reps.none _ _)))); intro v169 w3 ho4 hb hg_ hnew_; clear hg_ hnew_; (first | rw [← Ny168.out] at ho4 | (simp only [Int.reduceToNat] at ho4; rw [← Ny168.out] at ho4)); have HO170 := rL ho4 HB; replace HB := bS HB hb; clear hb ho4; obtain ⟨Ao5, co5, rfl⟩ := Kd.R_slice HO170.out) | ((with_reducible refine gc 42 rfl ?_); refine gL (some 9) Try.func42 #[.slice Ao5 y168.length co5] ?_; (with_reducible refine (cutplaneref01_Trim.calls k (fun k_ => some k_ = (.slice Ao5 y168.length co5 : Value).ownBlock) (.slice Ao5 y168.length co5) y168 t171 w _ ?side1 ?side2 A2.out).mono ?_); (case side1 => exact bU HB); (case side2 => exact Kd.R_tight rfl HO170.out); rintro e w6 ⟨v172, rfl, ho0, hb, hkp⟩; refine ⟨_, rfl, ?_⟩; have HO173 := Aside0.mk (Kd.R_mono (ok' := fun k_ => True) ho0 (fun k_ hk_ => trivial)); replace HB := Aside0.mk (hb); clear HO170; clear hb hkp ho0))
 go_ret
 exact ⟨_, by first | rfl | (simp [errW_none, errW_some] <;> rfl) | (simp [*, errW_none, errW_some] <;> rfl), rU HO173, bU HB⟩

end Go.Proofs.Ytldcelgbinenbaa.Px

namespace Go.Proofs.Ytldcelgbinenbaa.Px
open Go.RowKit Go.Proofs.YtldcelgbinenbaaW.PrintWords Go.Proofs.YtldcelgbinenbaaW.PrintLast Go.Proofs.YtldcelgbinenbaaW.PrintMore
attribute [local go_sem] max2_int min2_int max_two min_two max_three min_three max_four min_four   -- for this text's walks alone
set_option linter.unusedVariables false
set_option linter.unusedSimpArgs false

/-! ### cutplaneref01_byDigit: function 52 -/
def cutplaneref01_byDigit.l0 : Nat → List Int → Int → List Int → Int → Int → Option (List Int × List Int)
 | 0, _, _, _, _, _ => none
 | k + 1, x0, x1, x6, x7, x8 => if x8 ≥ 0 then (if 0 ≤ x8 then (if x8 < (x0.length : Int) then (if (IntKind.u64.wrap (x1)) = 0 then (none) else (if x8 < (x6.length : Int) then (cutplaneref01_byDigit.l0 k x0 x1 (x6.set (x8 : Int).toNat ((IntKind.u64.wrap (Int.tdiv (Go.bits .or .u64 (IntKind.u64.wrap (x7 * 4294967296)) (IntKind.u64.wrap (rd x0 x8))) (IntKind.u64.wrap (x1)))) % 4294967296)) (Int.tmod (Go.bits .or .u64 (IntKind.u64.wrap (x7 * 4294967296)) (IntKind.u64.wrap (rd x0 x8))) (IntKind.u64.wrap (x1))) (wrap64 (x8 - 1))) else (none))) else (none)) else (none)) else ((cutplaneref01_Trim.f k x6).bind fun t489 => ((cutplaneref01_Of.f k x7).bind fun t492 => (some (t489, t492))))
def cutplaneref01_byDigit.f (k : Nat) (l0 : List Int) (a1 : Int) : Option (List Int × List Int) := if 0 ≤ (l0.length : Int) then (if ((l0.length : Int) : Int).toNat ≤ 70368744177664 then (cutplaneref01_byDigit.l0 k l0 a1 (List.replicate ((l0.length : Int) : Int).toNat 0) 0 (wrap64 ((l0.length : Int) - 1))) else (none)) else (none)
theorem cutplaneref01_byDigit.mono_l : ∀ k, (∀ y0 y1 y2 y3 y4, LeO (cutplaneref01_byDigit.l0 k y0 y1 y2 y3 y4) (cutplaneref01_byDigit.l0 (k + 1) y0 y1 y2 y3 y4))
 | 0 => fun _ _ _ _ _ r h => by simp [cutplaneref01_byDigit.l0] at h
 | k + 1 => by
  have ih0 := cutplaneref01_byDigit.mono_l k
  ·intro y0 y1 y2 y3 y4
   unfold cutplaneref01_byDigit.l0
   repeat' (with_reducible first | exact ih0 _ _ _ _ _ | exact cutplaneref01_Of.mono _ _ | exact cutplaneref01_Trim.mono _ _ | exact LeO.refl _ | exact LeO.none _ | refine LeO.ite ?_ ?_ | refine LeO.bind ?_ (fun _ => ?_))
theorem cutplaneref01_byDigit.mono : ∀ a0 a1 k, LeO (cutplaneref01_byDigit.f k a0 a1) (cutplaneref01_byDigit.f (k + 1) a0 a1) := by
 intro a0 a1 k
 have ih0 := cutplaneref01_byDigit.mono_l k
 unfold cutplaneref01_byDigit.f
 repeat' (with_reducible first | exact ih0 _ _ _ _ _ | exact cutplaneref01_Of.mono _ _ | exact cutplaneref01_Trim.mono _ _ | exact LeO.refl _ | exact LeO.none _ | refine LeO.ite ?_ ?_ | refine LeO.bind ?_ (fun _ => ?_))
set_option maxHeartbeats 8000000 in
set_option maxRecDepth 100000 in
theorem cutplaneref01_byDigit.calls (k : Nat) (A0 : Option Addr) (c0 : Nat) (l0 : List Int) (a1 : Int) (r1 : List Int) (r2 : List Int) (w : World) (hr0 : Kd.C (Kd.int .u32) w A0 l0.length l0) (hc0 : l0.length ≤ c0) (h : cutplaneref01_byDigit.f k l0 a1 = some (r1, r2)) :
  Calls Try.prog 52 #[.slice A0 l0.length c0, .int .u32 a1] w fun e w' => ∃ v0_ v1_ : Value, e = .returned (.tuple #[v0_, v1_]) ∧ Kd.R (Kd.int .u32) 42 w' w.heap.size (fun k_ => some k_ ≠ (v1_ : Value).ownBlock) v0_ r1 ∧ Kd.R (Kd.int .u32) 42 w' w.heap.size (fun k_ => some k_ ≠ (v0_ : Value).ownBlock) v1_ r2 ∧ Below w.heap.size w w' := by
 have HR0 := Aside0.mk hr0
 have HC0 := Aside0.mk hc0
 clear hr0 hc0
 have HB := Aside0.mk (Below.refl w.heap.size w)
 have H := h
 unfold cutplaneref01_byDigit.f at H
 clear h
 by_cases c3 : 0 ≤ (l0.length : Int)
 ·rw [if_pos c3] at H
  have c3b0 := eq_true c3
  have c3b1 := decide_eq_true c3
  clear c3
  by_cases c4 : ((l0.length : Int) : Int).toNat ≤ 70368744177664
  ·rw [if_pos c4] at H
   have c4b0 := eq_true c4
   have c4b1 := decide_eq_true c4
   clear c4
   obtain ⟨y484, hy484⟩ : ∃ y_ : List Int, y_ = (List.replicate ((l0.length : Int) : Int).toNat 0) := ⟨_, rfl⟩
   try rw [← hy484] at H
   have Ny484 := Aside0.mk hy484
   clear hy484
   have H' := Aside0.mk H
   clear H
   go_enter Try.func52, Try.ntmps52
   go_wp2_with (first | ((with_reducible refine gate_dst (N := 11) rfl ?_); refine Kd.R_make (Kd.int .u32) _ 42 rfl (N := 11) rfl 22 _ _ rfl (l0.length : Int) rfl rfl Try.underlying22 (.int .u32 0) 4 info42 rfl (by decide) (by omega) 0 (ok := fun _ => True) (okp := fun _ => True) rfl (fun _ hk => hk) trivial od (Nat.le_trans (Nat.mul_le_mul_right _ (of_decide_eq_true (by first | (with_reducible assumption) | assumption) : (l0.length : Int).toNat ≤ 70368744177664)) (by omega)) (Below.refl _ _) (Nat.le_refl _) ?_; intro v485 w5 ho6 hb hg_ hnew_; clear hg_ hnew_; (first | rw [← Ny484.out] at ho6 | (simp only [Int.reduceToNat] at ho6; rw [← Ny484.out] at ho6)); have HO486 := rL ho6 HB; replace HB := bS HB hb; clear hb ho6))
   go_loopg [7, 8] k (fun kq v7 v8 w' => ∃ (x6_1 : List Int) (x7_1 : Int) (x8_1 : Int), v7 = .int .u64 x7_1 ∧ v8 = .int .i64 x8_1 ∧ Aside0 (cutplaneref01_byDigit.l0 kq l0 a1 x6_1 x7_1 x8_1 = some (r1, r2)) ∧ Aside0 (kq ≤ k) ∧ Aside0 (Kd.R (Kd.int .u32) 42 w' w.heap.size (fun _ => True) v485 x6_1) ∧ Aside0 (Below w.heap.size w w'))
   case atStart => exact ⟨(y484), (0), (wrap64 ((l0.length : Int) - 1)), es, es, H', ⟨Nat.le_refl _⟩, ⟨rU HO486⟩, ⟨bU HB⟩⟩
   case round =>
    clear H'
    try clear p2; try clear c3; try clear c3b0; try clear c3b1; try clear c4; try clear c4b0; try clear c4b1; try clear c5; try clear p6
    obtain ⟨x6_1, x7_1, x8_1, rfl, rfl, HA, HK1, HO_6, HB⟩ := hrel
    cases gk with
    | zero => exact absurd HA.out (by simp [cutplaneref01_byDigit.l0])
    | succ k1 =>
     have H := HA.out
     clear HA
     simp only [cutplaneref01_byDigit.l0] at H
     by_cases c7 : x8_1 ≥ 0
     ·rw [if_pos c7] at H
      have c7b0 : decide (0 ≤ x8_1) = true := decide_eq_true c7
      clear c7
      by_cases c8 : 0 ≤ x8_1
      ·rw [if_pos c8] at H
       have c8b0 := decide_eq_true c8
       clear c8
       by_cases c9 : x8_1 < (l0.length : Int)
       ·rw [if_pos c9] at H
        have c9b0 := decide_eq_true c9
        clear c9
        by_cases c10 : (IntKind.u64.wrap (a1)) = 0
        ·rw [if_pos c10] at H
         exact absurd H (by simp)
        ·rw [if_neg c10] at H
         have c10b0 : ((IntKind.u64.wrap (a1)) == 0) = false := beq_eq_false_iff_ne.mpr c10
         have c10b1 : ((IntKind.u64.wrap (a1)) != 0) = true := bne_iff_ne.mpr c10
         by_cases c11 : x8_1 < (x6_1.length : Int)
         ·rw [if_pos c11] at H
          have c11b0 := decide_eq_true c11
          clear c11
          obtain ⟨y488, hy488⟩ : ∃ y_ : List Int, y_ = (x6_1.set (x8_1 : Int).toNat ((IntKind.u64.wrap (Int.tdiv (Go.bits .or .u64 (IntKind.u64.wrap (x7_1 * 4294967296)) (IntKind.u64.wrap (rd l0 x8_1))) (IntKind.u64.wrap (a1)))) % 4294967296)) := ⟨_, rfl⟩
          try rw [← hy488] at H
          have Ny488 := Aside0.mk hy488
          clear hy488
          have H' := Aside0.mk H
          clear H
          have p487 : 0 ≤ (x8_1 : Int) := of_decide_eq_true (by first | (with_reducible assumption) | assumption)
          have q487 : x8_1 < (l0.length : Int) := of_decide_eq_true (by first | (with_reducible assumption) | assumption)
          obtain ⟨ad487, e487, hx487_0⟩ := Kd.at_int HR0.out x8_1 p487 q487
          cases e487
          replace hx487_0 := (HB.out.cell (World.block_lt_of_cell? w _ hx487_0)).trans hx487_0
          replace p487 := eq_true p487
          replace q487 := eq_true q487
          have p12 : 0 ≤ (x8_1 : Int) := of_decide_eq_true (by first | (with_reducible assumption) | assumption)
          have q12 : (x8_1 : Int) < ((x6_1.length : Int) : Int) := of_decide_eq_true (by first | (with_reducible assumption) | assumption)
          obtain ⟨go12, co12, eo12, gb12, gl12, cl12, HG12⟩ := Kd.R_form HO_6.out (by omega)
          (first | cases eo12 | (injection eo12 with ea_ en_ ec_; (first | subst ea_ | (injection ea_ with ea_; subst ea_)); subst ec_; clear en_))
          have GB12 := Aside0.mk gb12
          have GG12 := Aside0.mk HG12
          clear gb12 gl12 HG12
          obtain ⟨hx12_0, hf12_0⟩ := Kd.R_celln 0 HO_6.out (x8_1 : Int) p12 q12
          replace p12 := eq_true p12
          replace q12 := eq_true q12
          have HP13 := Kd.R_putg HO_6.out (x8_1 : Int) ((IntKind.u64.wrap (Int.tdiv (Go.bits .or .u64 (IntKind.u64.wrap (x7_1 * 4294967296)) (IntKind.u64.wrap (rd l0 x8_1))) (IntKind.u64.wrap (a1)))) % 4294967296)
          go_wp2_with (first | ((with_reducible refine gate_store (t := 42) (p := 34) rfl ?_); refine store_event (t := 42) (p := 34) (v := ?vo_w14) (w1 := (wr.setCell ⟨go12, (x8_1 : Int).toNat, none⟩ (.int .u32 ((IntKind.u64.wrap (Int.tdiv (Go.bits .or .u64 (IntKind.u64.wrap (x7_1 * 4294967296)) (IntKind.u64.wrap (rd l0 x8_1))) (IntKind.u64.wrap (a1)))) % 4294967296)))) ?hg ?ho ?hn ?hr ?_; (case ho => rfl); (case hg => rfl); (case hn => rfl); (case hr => first | (go_simp; done) | (go_simp; rfl)); intro w14 hw; have hg : wr.grownBy w14 (some go12) := (by rw [hw]; exact HP13.2); have hp_ : Kd.R (Kd.int .u32) 42 w14 w.heap.size (fun _ => True) (.slice (some ⟨go12, 0, none⟩) x6_1.length co12) y488 := (by rw [hw, Ny488.out]; exact HP13.1); clear HP13; replace HO_6 := Aside0.mk (hp_); replace HB := Aside0.mk ((by rw [hw]; exact below_set (HB.out) GB12.out : Below w.heap.size w w14)); clear hg hw hp_))
          go_roundg k1
          case measure => have := HK1.out; omega
          case rel => exact ⟨(y488), (Int.tmod (Go.bits .or .u64 (IntKind.u64.wrap (x7_1 * 4294967296)) (IntKind.u64.wrap (rd l0 x8_1))) (IntKind.u64.wrap (a1))), (wrap64 (x8_1 - 1)), es, es, H', ⟨by have := HK1.out; omega⟩, ⟨rU HO_6⟩, ⟨bU HB⟩⟩
         ·rw [if_neg c11] at H
          exact absurd H (by simp)
       ·rw [if_neg c9] at H
        exact absurd H (by simp)
      ·rw [if_neg c8] at H
       exact absurd H (by simp)
     ·rw [if_neg c7] at H
      have c7b0 : decide (0 ≤ x8_1) = false := decide_eq_false c7
      clear c7
      replace H := oc H
      obtain ⟨t489, A15, H⟩ := H
      replace H := oc H
      obtain ⟨t492, A16, H⟩ := H
      simp only [Option.some.injEq, Prod.mk.injEq] at H
      obtain ⟨rfl, rfl⟩ := H
      obtain ⟨Ao17, co17, eo17⟩ := Kd.R_slice HO_6.out
      subst eo17
      go_wp2_with (first | ((with_reducible refine gc 42 rfl ?_); refine gL (some 40) Try.func42 #[.slice Ao17 x6_1.length co17] ?_; (with_reducible refine (cutplaneref01_Trim.calls k1 (fun k_ => some k_ = (.slice Ao17 x6_1.length co17 : Value).ownBlock) (.slice Ao17 x6_1.length co17) x6_1 t489 w _ ?side1 ?side2 A15.out).mono ?_); (case side1 => exact bU HB); (case side2 => exact Kd.R_tight rfl HO_6.out); rintro e w18 ⟨v490, rfl, ho0, hb, hkp⟩; refine ⟨_, rfl, ?_⟩; have HO491 := Aside0.mk (Kd.R_mono (ok' := fun k_ => True) ho0 (fun k_ hk_ => trivial)); replace HB := Aside0.mk (hb); clear HO_6; clear hb hkp ho0) | ((with_reducible refine gc 19 rfl ?_); refine gL (some 42) Try.func19 #[.int .u64 x7_1] ?_; (with_reducible refine (cutplaneref01_Of.calls k1 x7_1 t492 _ A16.out).mono ?_); rintro e w19 ⟨v493, rfl, ho0, hb⟩; refine ⟨_, rfl, ?_⟩; have HO494 := rL (rX ho0 HO491) HB; replace HO491 := rE HO491 ho0 hb; replace HB := bS HB hb; clear hb ho0))
      go_ret2
      exact ⟨_, _, by first | rfl | (simp [errW_none, errW_some] <;> rfl) | (simp [*, errW_none, errW_some] <;> rfl), by (with_reducible repeat (first | apply Kd.R_alloc | apply Kd.R_drewN | apply Kd.R_drew)); exact Kd.R_mono HO491.out (fun _ hk => hk.2), by (with_reducible repeat (first | apply Kd.R_alloc | apply Kd.R_drewN | apply Kd.R_drew)); exact Kd.R_mono HO494.out (fun _ hk => hk.2), bU HB⟩
  ·rw [if_neg c4] at H
   exact absurd H (by simp)
 ·rw [if_neg c3] at H
  exact absurd H (by simp)

end Go.Proofs.Ytldcelgbinenbaa.Px

namespace Go.Proofs.Ytldcelgbinenbaa.Px
open Go.RowKit Go.Proofs.YtldcelgbinenbaaW.PrintWords Go.Proofs.YtldcelgbinenbaaW.PrintLast Go.Proofs.YtldcelgbinenbaaW.PrintMore
attribute [local go_sem] max2_int min2_int max_two min_two max_three min_three max_four min_four   -- for this text's walks alone
set_option linter.unusedVariables false
set_option linter.unusedSimpArgs false

/-! ### cutplaneref01_Bit: function 57 -/
def cutplaneref01_Bit.f (l0 : List Int) (a1 : Int) : Option (Int) := if a1 < 0 then (some 0) else (if (wrap64 (Int.tdiv a1 32)) ≥ (l0.length : Int) then (some 0) else (if 0 ≤ (wrap64 (Int.tdiv a1 32)) then (if (wrap64 (Int.tdiv a1 32)) < (l0.length : Int) then (if 0 ≤ (Int.tmod a1 32) then (some (Go.bits .and .u32 (shr .u32 (rd l0 (wrap64 (Int.tdiv a1 32))) (Int.tmod a1 32)) 1)) else (none)) else (none)) else (none)))
set_option maxHeartbeats 8000000 in
set_option maxRecDepth 100000 in
theorem cutplaneref01_Bit.calls (A0 : Option Addr) (c0 : Nat) (l0 : List Int) (a1 : Int) (r : Int) (w : World) (hr0 : Kd.C (Kd.int .u32) w A0 l0.length l0) (hc0 : l0.length ≤ c0) (h : cutplaneref01_Bit.f l0 a1 = some r) :
  Calls Try.prog 57 #[.slice A0 l0.length c0, .int .i64 a1] w fun e w' => e = .returned (.int .u32 r) ∧ Drawn0 w w' := by
 have HR0 := Aside0.mk hr0
 have HC0 := Aside0.mk hc0
 clear hr0 hc0
 have H := h
 unfold cutplaneref01_Bit.f at H
 clear h
 by_cases c3 : a1 < 0
 ·rw [if_pos c3] at H
  have c3b0 := decide_eq_true c3
  clear c3
  obtain rfl := Option.some.inj H
  go_enter Try.func57, Try.ntmps57
  go_wp2
  go_ret
  exact ⟨by first | rfl | (simp; done) | (simp [*]; done), by repeat (first | exact Drawn0.refl _ | apply Drawn0.step)⟩
 ·rw [if_neg c3] at H
  have c3b0 := decide_eq_false c3
  clear c3
  by_cases c4 : (wrap64 (Int.tdiv a1 32)) ≥ (l0.length : Int)
  ·rw [if_pos c4] at H
   have c4b0 : decide ((l0.length : Int) ≤ (wrap64 (Int.tdiv a1 32))) = true := decide_eq_true c4
   clear c4
   obtain rfl := Option.some.inj H
   go_enter Try.func57, Try.ntmps57
   go_wp2
   go_ret
   exact ⟨by first | rfl | (simp; done) | (simp [*]; done), by repeat (first | exact Drawn0.refl _ | apply Drawn0.step)⟩
  ·rw [if_neg c4] at H
   have c4b0 : decide ((l0.length : Int) ≤ (wrap64 (Int.tdiv a1 32))) = false := decide_eq_false c4
   clear c4
   obtain ⟨ji5, hji5⟩ : ∃ j_ : Int, (wrap64 (Int.tdiv a1 32)) = j_ := ⟨_, rfl⟩
   (first | rw [hji5] at H | simp only [hji5] at H)
   (try rw [hji5] at c4b0)
   have hji5w : (IntKind.i64.wrap (Int.tdiv a1 32)) = ji5 := (i64_w _).trans hji5
   by_cases c6 : 0 ≤ (ji5)
   ·rw [if_pos c6] at H
    have c6b0 := decide_eq_true c6
    clear c6
    by_cases c7 : (ji5) < (l0.length : Int)
    ·rw [if_pos c7] at H
     have c7b0 := decide_eq_true c7
     clear c7
     obtain ⟨ji8, hji8⟩ : ∃ j_ : Int, (Int.tmod a1 32) = j_ := ⟨_, rfl⟩
     (first | rw [hji8] at H | simp only [hji8] at H)
     by_cases c9 : 0 ≤ (ji8)
     ·rw [if_pos c9] at H
      have c9b0 := eq_true c9
      have c9b1 := decide_eq_true c9
      clear c9
      obtain ⟨ji10, hji10⟩ : ∃ j_ : Int, (shr .u32 (rd l0 (ji5)) (ji8)) = j_ := ⟨_, rfl⟩
      (first | rw [hji10] at H | simp only [hji10] at H)
      have hji10_ : ((rd l0 (ji5)) / 2 ^ min (ji8).toNat 32) = ji10 := hji10
      have hji10z : (ji8) ≤ 32 → ((rd l0 (ji5)) / 2 ^ (ji8).toNat) = ji10 := shr_small hji10
      obtain rfl := Option.some.inj H
      have p666 : 0 ≤ ((ji5) : Int) := of_decide_eq_true (by first | (with_reducible assumption) | assumption)
      have q666 : (ji5) < (l0.length : Int) := of_decide_eq_true (by first | (with_reducible assumption) | assumption)
      obtain ⟨ad666, e666, hx666_0⟩ := Kd.at_int HR0.out (ji5) p666 q666
      cases e666
      replace p666 := eq_true p666
      replace q666 := eq_true q666
      go_enter Try.func57, Try.ntmps57
      go_wp2
      go_ret
      exact ⟨by first | rfl | (simp; done) | (simp only [← hji5, ← hji8, ← hji10] <;> (first | rfl | simp)) | (simp [*]; done), by repeat (first | exact Drawn0.refl _ | apply Drawn0.step)⟩
     ·rw [if_neg c9] at H
      exact absurd H (by simp)
    ·rw [if_neg c7] at H
     exact absurd H (by simp)
   ·rw [if_neg c6] at H
    exact absurd H (by simp)

end Go.Proofs.Ytldcelgbinenbaa.Px

namespace Go.Proofs.Ytldcelgbinenbaa.Px
open Go.RowKit Go.Proofs.YtldcelgbinenbaaW.PrintWords Go.Proofs.YtldcelgbinenbaaW.PrintLast Go.Proofs.YtldcelgbinenbaaW.PrintMore
attribute [local go_sem] max2_int min2_int max_two min_two max_three min_three max_four min_four   -- for this text's walks alone
set_option linter.unusedVariables false
set_option linter.unusedSimpArgs false

/-! ### cutplaneref01_Low: function 67 -/
mutual
def cutplaneref01_Low.l0 : Nat → List Int → Int → Option (Int)
 | 0, _, _ => none
 | k + 1, x0, x3 => if x3 < (wrap64 (32 * (x0.length : Int))) then ((cutplaneref01_Bit.f x0 x3).bind fun t667 => (cutplaneref01_Low.j1 k x0 x3 (t667 == 0))) else (cutplaneref01_Low.j1 k x0 x3 false)
def cutplaneref01_Low.j1 : Nat → List Int → Int → Bool → Option (Int)
 | 0, _, _, _ => none
 | k + 1, x0, x3, x14 => if x14 = true then (if 0 ≤ (wrap64 (Int.tdiv x3 32)) then (if (wrap64 (Int.tdiv x3 32)) < (x0.length : Int) then (if (rd x0 (wrap64 (Int.tdiv x3 32))) = 0 then (cutplaneref01_Low.l0 k x0 (wrap64 (x3 + 32))) else (cutplaneref01_Low.l0 k x0 (wrap64 (x3 + 1)))) else (none)) else (none)) else (if x3 = (wrap64 (32 * (x0.length : Int))) then (some 0) else (some x3))
end
def cutplaneref01_Low.f (k : Nat) (l0 : List Int) : Option (Int) := cutplaneref01_Low.l0 k l0 0
theorem cutplaneref01_Low.mono_l : ∀ k, (∀ y0 y1, LeO (cutplaneref01_Low.l0 k y0 y1) (cutplaneref01_Low.l0 (k + 1) y0 y1)) ∧ (∀ y0 y1 y2, LeO (cutplaneref01_Low.j1 k y0 y1 y2) (cutplaneref01_Low.j1 (k + 1) y0 y1 y2))
 | 0 => ⟨fun _ _ r h => by simp [cutplaneref01_Low.l0] at h, fun _ _ _ r h => by simp [cutplaneref01_Low.j1] at h⟩
 | k + 1 => by
  obtain ⟨ih0, ih1⟩ := cutplaneref01_Low.mono_l k
  refine ⟨?_, ?_⟩
  ·intro y0 y1
   unfold cutplaneref01_Low.l0
   repeat' (with_reducible first | exact ih0 _ _ | exact ih1 _ _ _ | exact LeO.refl _ | exact LeO.none _ | refine LeO.ite ?_ ?_ | refine LeO.bind ?_ (fun _ => ?_))
  ·intro y0 y1 y2
   unfold cutplaneref01_Low.j1
   repeat' (with_reducible first | exact ih0 _ _ | exact ih1 _ _ _ | exact LeO.refl _ | exact LeO.none _ | refine LeO.ite ?_ ?_ | refine LeO.bind ?_ (fun _ => ?_))
theorem cutplaneref01_Low.mono : ∀ a0 k, LeO (cutplaneref01_Low.f k a0) (cutplaneref01_Low.f (k + 1) a0) := by
 intro a0 k
 obtain ⟨ih0, ih1⟩ := cutplaneref01_Low.mono_l k
 unfold cutplaneref01_Low.f
 repeat' (with_reducible first | exact ih0 _ _ | exact ih1 _ _ _ | exact LeO.refl _ | exact LeO.none _ | refine LeO.ite ?_ ?_ | refine LeO.bind ?_ (fun _ => ?_))
set_option maxHeartbeats 8000000 in
set_option maxRecDepth 100000 in
theorem cutplaneref01_Low.calls (k : Nat) (A0 : Option Addr) (c0 : Nat) (l0 : List Int) (r : Int) (w : World) (hr0 : Kd.C (Kd.int .u32) w A0 l0.length l0) (hc0 : l0.length ≤ c0) (h : cutplaneref01_Low.f k l0 = some r) :
  Calls Try.prog 67 #[.slice A0 l0.length c0] w fun e w' => e = .returned (.int .i64 r) ∧ Drawn0 w w' := by
 have HR0 := Aside0.mk hr0
 have HC0 := Aside0.mk hc0
 clear hr0 hc0
 have H := h
 unfold cutplaneref01_Low.f at H
 clear h
 have H' := Aside0.mk H
 clear H
 go_enter Try.func67, Try.ntmps67
 go_wp2
 go_loopg [3] k (fun kq v3 w' => ∃ (x3_1 : Int), v3 = .int .i64 x3_1 ∧ Aside0 (cutplaneref01_Low.l0 kq l0 x3_1 = some r) ∧ Aside0 (kq ≤ k) ∧ Drawn0 w w')
 case atStart => exact ⟨(0), es, H', ⟨Nat.le_refl _⟩, by repeat (first | exact Drawn0.refl _ | apply Drawn0.step)⟩
 case round =>
  clear H'
  obtain ⟨x3_1, rfl, HA, HK1, ⟨m1, rfl⟩⟩ := hrel
  cases gk with
  | zero => exact absurd HA.out (by simp [cutplaneref01_Low.l0])
  | succ k1 =>
   have H := HA.out
   clear HA
   simp only [cutplaneref01_Low.l0] at H
   have HC2 := Aside0.mk H
   clear H
   go_upto_region 2 with (fail)
   go_cut [14] (fun v14 wc => ∃ (kq : Nat) (x14_1 : Bool), v14 = .bool x14_1 ∧ Aside0 (cutplaneref01_Low.j1 kq l0 x3_1 x14_1 = some r) ∧ Aside0 (kq ≤ k1) ∧ Drawn0 w wc)
   case first =>
    have H := HC2.out
    clear HC2
    by_cases c3 : x3_1 < (wrap64 (32 * (l0.length : Int)))
    ·rw [if_pos c3] at H
     have c3b0 := decide_eq_true c3
     clear c3
     (first | rw [c3b0] | (simp only [i64_w, i32_w]; rw [c3b0]) | skip)
     replace H := oc H
     obtain ⟨t667, A4, H⟩ := H
     have H' := Aside0.mk H
     clear H
     go_wp2_with (first | (go_at_call 57; (with_reducible refine (cutplaneref01_Bit.calls _ _ l0 x3_1 t667 _ ?side1 ?side2 A4.out).mono ?_); (case side1 => exact cU HR0); (case side2 => exact HC0.out); rintro e w' ⟨rfl, ⟨nd, rfl⟩⟩))
     go_meet
     case rel => exact ⟨_, ((t667 == 0)), es, H', ⟨by have := HK1.out; first | omega | exact Nat.le_refl _⟩, by repeat (first | exact Drawn0.refl _ | apply Drawn0.step)⟩
    ·rw [if_neg c3] at H
     have c3b0 := decide_eq_false c3
     clear c3
     (first | rw [c3b0] | (simp only [i64_w, i32_w]; rw [c3b0]) | skip)
     have H' := Aside0.mk H
     clear H
     go_wp2
     go_meet
     case rel => exact ⟨_, (false), es, H', ⟨by have := HK1.out; first | omega | exact Nat.le_refl _⟩, by repeat (first | exact Drawn0.refl _ | apply Drawn0.step)⟩
   case rest =>
    clear HC2
    try clear p2; try clear c3; try clear c3b0
    obtain ⟨kq, x14_1, rfl, HA, HJ1, ⟨mc1, rfl⟩⟩ := hcut
    cases kq with
    | zero => exact absurd HA.out (by simp [cutplaneref01_Low.j1])
    | succ kj1 =>
     have H := HA.out
     clear HA
     simp only [cutplaneref01_Low.j1] at H
     by_cases c5 : x14_1 = true
     ·subst c5
      rw [if_pos rfl] at H
      obtain ⟨ji6, hji6⟩ : ∃ j_ : Int, (wrap64 (Int.tdiv x3_1 32)) = j_ := ⟨_, rfl⟩
      (first | rw [hji6] at H | simp only [hji6] at H)
      have hji6w : (IntKind.i64.wrap (Int.tdiv x3_1 32)) = ji6 := (i64_w _).trans hji6
      by_cases c7 : 0 ≤ (ji6)
      ·rw [if_pos c7] at H
       have c7b0 := decide_eq_true c7
       clear c7
       by_cases c8 : (ji6) < (l0.length : Int)
       ·rw [if_pos c8] at H
        have c8b0 := decide_eq_true c8
        clear c8
        by_cases c9 : (rd l0 (ji6)) = 0
        ·rw [if_pos c9] at H
         have c9b0 : ((rd l0 (ji6)) == 0) = true := beq_iff_eq.mpr c9
         have c9b1 : ((rd l0 (ji6)) != 0) = false := bne_eq_false_iff_eq.mpr c9
         clear c9
         have H' := Aside0.mk H
         clear H
         have p668 : 0 ≤ ((ji6) : Int) := of_decide_eq_true (by first | (with_reducible assumption) | assumption)
         have q668 : (ji6) < (l0.length : Int) := of_decide_eq_true (by first | (with_reducible assumption) | assumption)
         obtain ⟨ad668, e668, hx668_0⟩ := Kd.at_int HR0.out (ji6) p668 q668
         cases e668
         replace p668 := eq_true p668
         replace q668 := eq_true q668
         go_wp2
         go_roundg kj1
         case measure => have := HK1.out; have := HJ1.out; omega
         case rel => exact ⟨(wrap64 (x3_1 + 32)), es, H', ⟨by have := HK1.out; have := HJ1.out; omega⟩, by repeat (first | exact Drawn0.refl _ | apply Drawn0.step)⟩
        ·rw [if_neg c9] at H
         have c9b0 : ((rd l0 (ji6)) == 0) = false := beq_eq_false_iff_ne.mpr c9
         have c9b1 : ((rd l0 (ji6)) != 0) = true := bne_iff_ne.mpr c9
         have H' := Aside0.mk H
         clear H
         have p668 : 0 ≤ ((ji6) : Int) := of_decide_eq_true (by first | (with_reducible assumption) | assumption)
         have q668 : (ji6) < (l0.length : Int) := of_decide_eq_true (by first | (with_reducible assumption) | assumption)
         obtain ⟨ad668, e668, hx668_0⟩ := Kd.at_int HR0.out (ji6) p668 q668
         cases e668
         replace p668 := eq_true p668
         replace q668 := eq_true q668
         go_wp2
         go_roundg kj1
         case measure => have := HK1.out; have := HJ1.out; omega
         case rel => exact ⟨(wrap64 (x3_1 + 1)), es, H', ⟨by have := HK1.out; have := HJ1.out; omega⟩, by repeat (first | exact Drawn0.refl _ | apply Drawn0.step)⟩
       ·rw [if_neg c8] at H
        exact absurd H (by simp)
      ·rw [if_neg c7] at H
       exact absurd H (by simp)
     ·replace c5 := Bool.eq_false_iff.mpr c5
      subst c5
      rw [if_neg (show ¬ (false = true) by decide)] at H
      by_cases c10 : x3_1 = (wrap64 (32 * (l0.length : Int)))
      ·rw [if_pos c10] at H
       have c10b0 : (x3_1 == (wrap64 (32 * (l0.length : Int)))) = true := beq_iff_eq.mpr c10
       have c10b1 : (x3_1 != (wrap64 (32 * (l0.length : Int)))) = false := bne_eq_false_iff_eq.mpr c10
       clear c10
       obtain rfl := Option.some.inj H
       go_wp2
       go_ret
       exact ⟨by first | rfl | (simp; done) | (simp [*]; done), by repeat (first | exact Drawn0.refl _ | apply Drawn0.step)⟩
      ·rw [if_neg c10] at H
       have c10b0 : (x3_1 == (wrap64 (32 * (l0.length : Int)))) = false := beq_eq_false_iff_ne.mpr c10
       have c10b1 : (x3_1 != (wrap64 (32 * (l0.length : Int)))) = true := bne_iff_ne.mpr c10
       obtain rfl := Option.some.inj H
       go_wp2
       go_ret
       exact ⟨by first | rfl | (simp; done) | (simp [*]; done), by repeat (first | exact Drawn0.refl _ | apply Drawn0.step)⟩

end Go.Proofs.Ytldcelgbinenbaa.Px

namespace Go.Proofs.Ytldcelgbinenbaa.Px
open Go.RowKit Go.Proofs.YtldcelgbinenbaaW.PrintWords Go.Proofs.YtldcelgbinenbaaW.PrintLast Go.Proofs.YtldcelgbinenbaaW.PrintMore
attribute [local go_sem] max2_int min2_int max_two min_two max_three min_three max_four min_four   -- for this text's walks alone
set_option linter.unusedVariables false
set_option linter.unusedSimpArgs false

/-! ### cutplaneref01_Down: function 55 -/
def cutplaneref01_Down.l0 : Nat → List Int → Bool → List Int → Int → Int → Option (List Int × Bool)
 | 0, _, _, _, _, _ => none
 | k + 1, x0, x6, x7, x8, x9 => if x9 < (x0.length : Int) then (if 0 ≤ x9 then (if 0 ≤ x8 then (if (wrap64 (x9 + 1)) < (x0.length : Int) then (if 0 ≤ (wrap64 (x9 + 1)) then (if 0 ≤ (wrap64 (32 - x8)) then (if x7.length < 35184372088832 then (cutplaneref01_Down.l0 k x0 x6 (x7 ++ [(Go.bits .or .u64 (shr .u64 (IntKind.u64.wrap (rd x0 x9)) x8) (shl .u64 (IntKind.u64.wrap (rd x0 (wrap64 (x9 + 1)))) (wrap64 (32 - x8)))) % 4294967296]) x8 (wrap64 (x9 + 1))) else (none)) else (none)) else (none)) else (if x7.length < 35184372088832 then (cutplaneref01_Down.l0 k x0 x6 (x7 ++ [(shr .u64 (IntKind.u64.wrap (rd x0 x9)) x8) % 4294967296]) x8 (wrap64 (x9 + 1))) else (none))) else (none)) else (none)) else ((cutplaneref01_Trim.f k x7).bind fun t679 => (some (t679, x6)))
def cutplaneref01_Down.f (k : Nat) (l0 : List Int) (a1 : Int) : Option (List Int × Bool) := (cutplaneref01_Len.f k l0).bind fun t669 => (if a1 ≥ t669 then (some (([] : List Int), decide ((l0.length : Int) > 0))) else ((cutplaneref01_Low.f k l0).bind fun t670 => (cutplaneref01_Down.l0 k l0 (decide (a1 > t670)) ([] : List Int) (Int.tmod a1 32) (wrap64 (Int.tdiv a1 32)))))
theorem cutplaneref01_Down.mono_l : ∀ k, (∀ y0 y1 y2 y3 y4, LeO (cutplaneref01_Down.l0 k y0 y1 y2 y3 y4) (cutplaneref01_Down.l0 (k + 1) y0 y1 y2 y3 y4))
 | 0 => fun _ _ _ _ _ r h => by simp [cutplaneref01_Down.l0] at h
 | k + 1 => by
  have ih0 := cutplaneref01_Down.mono_l k
  ·intro y0 y1 y2 y3 y4
   unfold cutplaneref01_Down.l0
   repeat' (with_reducible first | exact ih0 _ _ _ _ _ | exact cutplaneref01_Len.mono _ _ | exact cutplaneref01_Low.mono _ _ | exact cutplaneref01_Trim.mono _ _ | exact LeO.refl _ | exact LeO.none _ | refine LeO.ite ?_ ?_ | refine LeO.bind ?_ (fun _ => ?_))
theorem cutplaneref01_Down.mono : ∀ a0 a1 k, LeO (cutplaneref01_Down.f k a0 a1) (cutplaneref01_Down.f (k + 1) a0 a1) := by
 intro a0 a1 k
 have ih0 := cutplaneref01_Down.mono_l k
 unfold cutplaneref01_Down.f
 repeat' (with_reducible first | exact ih0 _ _ _ _ _ | exact cutplaneref01_Len.mono _ _ | exact cutplaneref01_Low.mono _ _ | exact cutplaneref01_Trim.mono _ _ | exact LeO.refl _ | exact LeO.none _ | refine LeO.ite ?_ ?_ | refine LeO.bind ?_ (fun _ => ?_))
set_option maxHeartbeats 8000000 in
set_option maxRecDepth 100000 in
theorem cutplaneref01_Down.calls (k : Nat) (A0 : Option Addr) (c0 : Nat) (l0 : List Int) (a1 : Int) (r1 : List Int) (r2 : Bool) (w : World) (hr0 : Kd.C (Kd.int .u32) w A0 l0.length l0) (hc0 : l0.length ≤ c0) (h : cutplaneref01_Down.f k l0 a1 = some (r1, r2)) :
  Calls Try.prog 55 #[.slice A0 l0.length c0, .int .i64 a1] w fun e w' => ∃ v0_ : Value, e = .returned (.tuple #[v0_, .bool r2]) ∧ Kd.R (Kd.int .u32) 42 w' w.heap.size (fun _ => True) v0_ r1 ∧ Below w.heap.size w w' := by
 have HR0 := Aside0.mk hr0
 have HC0 := Aside0.mk hc0
 clear hr0 hc0
 have HB := Aside0.mk (Below.refl w.heap.size w)
 have H := h
 unfold cutplaneref01_Down.f at H
 clear h
 replace H := oc H
 obtain ⟨t669, A3, H⟩ := H
 by_cases c4 : a1 ≥ t669
 ·rw [if_pos c4] at H
  have c4b0 : decide (t669 ≤ a1) = true := decide_eq_true c4
  clear c4
  simp only [Option.some.injEq, Prod.mk.injEq] at H
  obtain ⟨rfl, rfl⟩ := H
  go_enter Try.func55, Try.ntmps55
  go_wp2_with (first | ((with_reducible refine gc 50 rfl ?_); refine gL (some 13) Try.func50 #[.slice A0 l0.length c0] ?_; (with_reducible refine (cutplaneref01_Len.calls k _ _ l0 t669 _ ?side1 ?side2 A3.out).mono ?_); (case side1 => exact cU HR0); (case side2 => exact HC0.out); rintro e w' ⟨rfl, ⟨nd, rfl⟩⟩; refine ⟨_, rfl, ?_⟩))
  go_ret2
  exact ⟨_, by first | rfl | (simp [errW_none, errW_some] <;> rfl) | (simp [*, errW_none, errW_some] <;> rfl), by first | exact Kd.R_nil _ _ _ _ _ | exact Kd.N_nil _ _ _ _ _ | exact Kd.V_nil _ _ _ _ _ | exact Kd.Q_nil _ _ _ _ _ | exact Kd.S_nil _ _ _ _ _, bU HB⟩
 ·rw [if_neg c4] at H
  have c4b0 : decide (t669 ≤ a1) = false := decide_eq_false c4
  clear c4
  replace H := oc H
  obtain ⟨t670, A5, H⟩ := H
  have H' := Aside0.mk H
  clear H
  go_enter Try.func55, Try.ntmps55
  go_wp2_with (first | ((with_reducible refine gc 50 rfl ?_); refine gL (some 13) Try.func50 #[.slice A0 l0.length c0] ?_; (with_reducible refine (cutplaneref01_Len.calls k _ _ l0 t669 _ ?side1 ?side2 A3.out).mono ?_); (case side1 => exact cU HR0); (case side2 => exact HC0.out); rintro e w' ⟨rfl, ⟨nd, rfl⟩⟩; refine ⟨_, rfl, ?_⟩) | ((with_reducible refine gc 67 rfl ?_); refine gL (some 20) Try.func67 #[.slice A0 l0.length c0] ?_; (with_reducible refine (cutplaneref01_Low.calls k _ _ l0 t670 _ ?side1 ?side2 A5.out).mono ?_); (case side1 => exact cU HR0); (case side2 => exact HC0.out); rintro e w' ⟨rfl, ⟨nd, rfl⟩⟩; refine ⟨_, rfl, ?_⟩))
  go_loopg [7, 9] k (fun kq v7 v9 w' => ∃ (x7_1 : List Int) (x9_1 : Int), v9 = .int .i64 x9_1 ∧ Aside0 (cutplaneref01_Down.l0 kq l0 (decide (a1 > t670)) x7_1 (Int.tmod a1 32) x9_1 = some (r1, r2)) ∧ Aside0 (kq ≤ k) ∧ Aside0 (Kd.R (Kd.int .u32) 42 w' w.heap.size (fun _ => True) v7 x7_1) ∧ Aside0 (Below w.heap.size w w'))
  case atStart => exact ⟨(([] : List Int)), (wrap64 (Int.tdiv a1 32)), es, H', ⟨Nat.le_refl _⟩, ⟨by first | exact Kd.R_nil _ _ _ _ _ | exact Kd.N_nil _ _ _ _ _ | exact Kd.V_nil _ _ _ _ _ | exact Kd.Q_nil _ _ _ _ _ | exact Kd.S_nil _ _ _ _ _⟩, ⟨bU HB⟩⟩
  case round =>
   clear H'
   try clear p2; try clear c4; try clear c4b0; try clear c5
   obtain ⟨x7_1, x9_1, rfl, HA, HK1, HO_7, HB⟩ := hrel
   cases gk with
   | zero => exact absurd HA.out (by simp [cutplaneref01_Down.l0])
   | succ k1 =>
    have H := HA.out
    clear HA
    simp only [cutplaneref01_Down.l0] at H
    by_cases c6 : x9_1 < (l0.length : Int)
    ·rw [if_pos c6] at H
     have c6b0 := decide_eq_true c6
     clear c6
     by_cases c7 : 0 ≤ x9_1
     ·rw [if_pos c7] at H
      have c7b0 := decide_eq_true c7
      clear c7
      obtain ⟨ji8, hji8⟩ : ∃ j_ : Int, (Int.tmod a1 32) = j_ := ⟨_, rfl⟩
      (first | rw [hji8] at H | simp only [hji8] at H)
      by_cases c9 : 0 ≤ (ji8)
      ·rw [if_pos c9] at H
       have c9b0 := eq_true c9
       have c9b1 := decide_eq_true c9
       clear c9
       obtain ⟨ji10, hji10⟩ : ∃ j_ : Int, (shr .u64 (IntKind.u64.wrap (rd l0 x9_1)) (ji8)) = j_ := ⟨_, rfl⟩
       (first | rw [hji10] at H | simp only [hji10] at H)
       have hji10_ : ((IntKind.u64.wrap (rd l0 x9_1)) / 2 ^ min (ji8).toNat 64) = ji10 := hji10
       have hji10z : (ji8) ≤ 64 → ((IntKind.u64.wrap (rd l0 x9_1)) / 2 ^ (ji8).toNat) = ji10 := shr_small hji10
       by_cases c11 : (wrap64 (x9_1 + 1)) < (l0.length : Int)
       ·rw [if_pos c11] at H
        have c11b0 := decide_eq_true c11
        clear c11
        obtain ⟨ji12, hji12⟩ : ∃ j_ : Int, (wrap64 (x9_1 + 1)) = j_ := ⟨_, rfl⟩
        (first | rw [hji12] at H | simp only [hji12] at H)
        (try rw [hji12] at c11b0)
        have hji12w : (IntKind.i64.wrap (x9_1 + 1)) = ji12 := (i64_w _).trans hji12
        by_cases c13 : 0 ≤ (ji12)
        ·rw [if_pos c13] at H
         have c13b0 := decide_eq_true c13
         clear c13
         obtain ⟨ji14, hji14⟩ : ∃ j_ : Int, (wrap64 (32 - (ji8))) = j_ := ⟨_, rfl⟩
         (first | rw [hji14] at H | simp only [hji14] at H)
         have hji14w : (IntKind.i64.wrap (32 - (ji8))) = ji14 := (i64_w _).trans hji14
         by_cases c15 : 0 ≤ (ji14)
         ·rw [if_pos c15] at H
          have c15b0 := eq_true c15
          have c15b1 := decide_eq_true c15
          clear c15
          obtain ⟨ji16, hji16⟩ : ∃ j_ : Int, (shl .u64 (IntKind.u64.wrap (rd l0 (ji12))) (ji14)) = j_ := ⟨_, rfl⟩
          (first | rw [hji16] at H | simp only [hji16] at H)
          have hji16_ : (IntKind.u64.wrap ((IntKind.u64.wrap (rd l0 (ji12))) * 2 ^ min (ji14).toNat 64)) = ji16 := hji16
          have hji16z : (ji14) ≤ 64 → (IntKind.u64.wrap ((IntKind.u64.wrap (rd l0 (ji12))) * 2 ^ (ji14).toNat)) = ji16 := shl_small hji16
          by_cases c17 : x7_1.length < 35184372088832
          ·rw [if_pos c17] at H
           have LMc17 := Aside0.mk c17
           clear c17
           obtain ⟨y673, hy673⟩ : ∃ y_ : List Int, y_ = (x7_1 ++ [(Go.bits .or .u64 (ji10) (ji16)) % 4294967296]) := ⟨_, rfl⟩
           try rw [← hy673] at H
           have Ny673 := Aside0.mk hy673
           clear hy673
           have H' := Aside0.mk H
           clear H
           have p671 : 0 ≤ (x9_1 : Int) := of_decide_eq_true (by first | (with_reducible assumption) | assumption)
           have q671 : x9_1 < (l0.length : Int) := of_decide_eq_true (by first | (with_reducible assumption) | assumption)
           obtain ⟨ad671, e671, hx671_0⟩ := Kd.at_int HR0.out x9_1 p671 q671
           cases e671
           replace hx671_0 := (HB.out.cell (World.block_lt_of_cell? w _ hx671_0)).trans hx671_0
           replace p671 := eq_true p671
           replace q671 := eq_true q671
           have p672 : 0 ≤ ((ji12) : Int) := of_decide_eq_true (by first | (with_reducible assumption) | assumption)
           have q672 : (ji12) < (l0.length : Int) := of_decide_eq_true (by first | (with_reducible assumption) | assumption)
           obtain ⟨ad672, e672, hx672_0⟩ := Kd.at_int HR0.out (ji12) p672 q672
           obtain rfl : ad671 = ad672 := (by injection e672)
           replace hx672_0 := (HB.out.cell (World.block_lt_of_cell? w _ hx672_0)).trans hx672_0
           replace p672 := eq_true p672
           replace q672 := eq_true q672
           go_wp2_with (first | ((with_reducible refine gate_builtin (b := .append) (xs := #[.tmp 55, .tmp 58]) rfl ?_); at_builtin; refine Kd.R_append (Kd.int .u32) (w0 := w) w.heap.size rfl (.tmp 55) (.tmp 58) 22 42 (.int .u32 0) 4 rfl Try.underlying22 info42 rfl (by decide) (by omega) u7 x7_1 ((Go.bits .or .u64 (ji10) (ji16)) % 4294967296) [.int .u32 ((Go.bits .or .u64 (ji10) (ji16)) % 4294967296)] (fun _ => True) (fun _ => False) rfl rfl ?aP (fun _ hk => hk.elim) ?aF ?aO ?aB ?aS ?aL ?_; (case aP => exact rfl); (case aB => exact (bU HB)); (case aF => exact (fun _ _ => trivial)); (case aO => exact (rU HO_7)); (case aS => exact (below_size (bU HB))); (case aL => have := LMc17.out; omega); intro v674 w18 ho hb hg hat; rw [← Ny673.out] at ho; replace HB := Aside0.mk (hb); have HO675 := Aside0.mk (ho); clear HO_7; clear ho hb hg hat))
           (try simp only [← hji8] at H' ⊢)
           go_roundg k1
           case measure => have := HK1.out; omega
           case rel => exact ⟨(y673), (ji12), (by first | rfl | (simp; done) | (simp only [← hji12] <;> (first | rfl | simp)) | (simp [*]; done)), H', ⟨by have := HK1.out; omega⟩, ⟨rU HO675⟩, ⟨bU HB⟩⟩
          ·rw [if_neg c17] at H
           exact absurd H (by simp)
         ·rw [if_neg c15] at H
          exact absurd H (by simp)
        ·rw [if_neg c13] at H
         exact absurd H (by simp)
       ·rw [if_neg c11] at H
        have c11b0 := decide_eq_false c11
        clear c11
        by_cases c19 : x7_1.length < 35184372088832
        ·rw [if_pos c19] at H
         have LMc19 := Aside0.mk c19
         clear c19
         obtain ⟨y676, hy676⟩ : ∃ y_ : List Int, y_ = (x7_1 ++ [(ji10) % 4294967296]) := ⟨_, rfl⟩
         try rw [← hy676] at H
         have Ny676 := Aside0.mk hy676
         clear hy676
         have H' := Aside0.mk H
         clear H
         have p671 : 0 ≤ (x9_1 : Int) := of_decide_eq_true (by first | (with_reducible assumption) | assumption)
         have q671 : x9_1 < (l0.length : Int) := of_decide_eq_true (by first | (with_reducible assumption) | assumption)
         obtain ⟨ad671, e671, hx671_0⟩ := Kd.at_int HR0.out x9_1 p671 q671
         cases e671
         replace hx671_0 := (HB.out.cell (World.block_lt_of_cell? w _ hx671_0)).trans hx671_0
         replace p671 := eq_true p671
         replace q671 := eq_true q671
         go_wp2_with (first | ((with_reducible refine gate_builtin (b := .append) (xs := #[.tmp 55, .tmp 58]) rfl ?_); at_builtin; refine Kd.R_append (Kd.int .u32) (w0 := w) w.heap.size rfl (.tmp 55) (.tmp 58) 22 42 (.int .u32 0) 4 rfl Try.underlying22 info42 rfl (by decide) (by omega) u7 x7_1 ((ji10) % 4294967296) [.int .u32 ((ji10) % 4294967296)] (fun _ => True) (fun _ => False) rfl rfl ?aP (fun _ hk => hk.elim) ?aF ?aO ?aB ?aS ?aL ?_; (case aP => exact rfl); (case aB => exact (bU HB)); (case aF => exact (fun _ _ => trivial)); (case aO => exact (rU HO_7)); (case aS => exact (below_size (bU HB))); (case aL => have := LMc19.out; omega); intro v677 w20 ho hb hg hat; rw [← Ny676.out] at ho; replace HB := Aside0.mk (hb); have HO678 := Aside0.mk (ho); clear HO_7; clear ho hb hg hat))
         (try simp only [← hji8] at H' ⊢)
         go_roundg k1
         case measure => have := HK1.out; omega
         case rel => exact ⟨(y676), (wrap64 (x9_1 + 1)), es, H', ⟨by have := HK1.out; omega⟩, ⟨rU HO678⟩, ⟨bU HB⟩⟩
        ·rw [if_neg c19] at H
         exact absurd H (by simp)
      ·rw [if_neg c9] at H
       exact absurd H (by simp)
     ·rw [if_neg c7] at H
      exact absurd H (by simp)
    ·rw [if_neg c6] at H
     have c6b0 := decide_eq_false c6
     clear c6
     replace H := oc H
     obtain ⟨t679, A21, H⟩ := H
     simp only [Option.some.injEq, Prod.mk.injEq] at H
     obtain ⟨rfl, rfl⟩ := H
     obtain ⟨Ao22, co22, eo22⟩ := Kd.R_slice HO_7.out
     subst eo22
     go_wp2_with (first | ((with_reducible refine gc 42 rfl ?_); refine gL (some 61) Try.func42 #[.slice Ao22 x7_1.length co22] ?_; (with_reducible refine (cutplaneref01_Trim.calls k1 (fun k_ => some k_ = (.slice Ao22 x7_1.length co22 : Value).ownBlock) (.slice Ao22 x7_1.length co22) x7_1 t679 w _ ?side1 ?side2 A21.out).mono ?_); (case side1 => exact bU HB); (case side2 => exact Kd.R_tight rfl HO_7.out); rintro e w23 ⟨v680, rfl, ho0, hb, hkp⟩; refine ⟨_, rfl, ?_⟩; have HO681 := Aside0.mk (Kd.R_mono (ok' := fun k_ => True) ho0 (fun k_ hk_ => trivial)); replace HB := Aside0.mk (hb); clear HO_7; clear hb hkp ho0))
     go_ret2
     exact ⟨_, by first | rfl | (simp [errW_none, errW_some] <;> rfl) | (simp [*, errW_none, errW_some] <;> rfl), rU HO681, bU HB⟩

end Go.Proofs.Ytldcelgbinenbaa.Px

namespace Go.Proofs.Ytldcelgbinenbaa.Px
open Go.RowKit Go.Proofs.YtldcelgbinenbaaW.PrintWords Go.Proofs.YtldcelgbinenbaaW.PrintLast Go.Proofs.YtldcelgbinenbaaW.PrintMore
attribute [local go_sem] max2_int min2_int max_two min_two max_three min_three max_four min_four   -- for this text's walks alone
set_option linter.unusedVariables false
set_option linter.unusedSimpArgs false

/-! ### cutplaneref01_Up: function 56 -/
def cutplaneref01_Up.l0 : Nat → List Int → List Int → Int → Int → Int → Option (List Int)
 | 0, _, _, _, _, _ => none
 | k + 1, x0, x5, x6, x7, x8 => if x8 < (x0.length : Int) then (if 0 ≤ x8 then (if 0 ≤ x6 then (if x5.length < 35184372088832 then (cutplaneref01_Up.l0 k x0 (x5 ++ [(Go.bits .or .u64 x7 (shl .u64 (IntKind.u64.wrap (rd x0 x8)) x6)) % 4294967296]) x6 ((Go.bits .or .u64 x7 (shl .u64 (IntKind.u64.wrap (rd x0 x8)) x6)) / 4294967296) (wrap64 (x8 + 1))) else (none)) else (none)) else (none)) else (if x5.length < 35184372088832 then ((cutplaneref01_Trim.f k (x5 ++ [(x7) % 4294967296])).bind fun t692 => (some t692)) else (none))
def cutplaneref01_Up.f (k : Nat) (l0 : List Int) (a1 : Int) : Option (List Int) := if (l0.length : Int) = 0 then (some ([] : List Int)) else (if 0 ≤ (wrap64 (Int.tdiv a1 32)) then (if (wrap64 (Int.tdiv a1 32) : Int).toNat ≤ 70368744177664 then (cutplaneref01_Up.l0 k l0 (List.replicate (wrap64 (Int.tdiv a1 32) : Int).toNat 0) (Int.tmod a1 32) 0 0) else (none)) else (none))
theorem cutplaneref01_Up.mono_l : ∀ k, (∀ y0 y1 y2 y3 y4, LeO (cutplaneref01_Up.l0 k y0 y1 y2 y3 y4) (cutplaneref01_Up.l0 (k + 1) y0 y1 y2 y3 y4))
 | 0 => fun _ _ _ _ _ r h => by simp [cutplaneref01_Up.l0] at h
 | k + 1 => by
  have ih0 := cutplaneref01_Up.mono_l k
  ·intro y0 y1 y2 y3 y4
   unfold cutplaneref01_Up.l0
   repeat' (with_reducible first | exact ih0 _ _ _ _ _ | exact cutplaneref01_Trim.mono _ _ | exact LeO.refl _ | exact LeO.none _ | refine LeO.ite ?_ ?_ | refine LeO.bind ?_ (fun _ => ?_))
theorem cutplaneref01_Up.mono : ∀ a0 a1 k, LeO (cutplaneref01_Up.f k a0 a1) (cutplaneref01_Up.f (k + 1) a0 a1) := by
 intro a0 a1 k
 have ih0 := cutplaneref01_Up.mono_l k
 unfold cutplaneref01_Up.f
 repeat' (with_reducible first | exact ih0 _ _ _ _ _ | exact cutplaneref01_Trim.mono _ _ | exact LeO.refl _ | exact LeO.none _ | refine LeO.ite ?_ ?_ | refine LeO.bind ?_ (fun _ => ?_))
set_option maxHeartbeats 8000000 in
set_option maxRecDepth 100000 in
theorem cutplaneref01_Up.calls (k : Nat) (A0 : Option Addr) (c0 : Nat) (l0 : List Int) (a1 : Int) (r : List Int) (w : World) (hr0 : Kd.C (Kd.int .u32) w A0 l0.length l0) (hc0 : l0.length ≤ c0) (h : cutplaneref01_Up.f k l0 a1 = some r) :
  Calls Try.prog 56 #[.slice A0 l0.length c0, .int .i64 a1] w fun e w' => ∃ v0_ : Value, e = .returned (v0_) ∧ Kd.R (Kd.int .u32) 42 w' w.heap.size (fun _ => True) v0_ r ∧ Below w.heap.size w w' := by
 have HR0 := Aside0.mk hr0
 have HC0 := Aside0.mk hc0
 clear hr0 hc0
 have HB := Aside0.mk (Below.refl w.heap.size w)
 have H := h
 unfold cutplaneref01_Up.f at H
 clear h
 by_cases c3 : (l0.length : Int) = 0
 ·rw [if_pos c3] at H
  have c3b0 : ((l0.length : Int) == 0) = true := beq_iff_eq.mpr c3
  have c3b1 : ((l0.length : Int) != 0) = false := bne_eq_false_iff_eq.mpr c3
  clear c3
  obtain rfl := Option.some.inj H
  go_enter Try.func56, Try.ntmps56
  go_wp2
  go_ret
  exact ⟨_, by first | rfl | (simp [errW_none, errW_some] <;> rfl) | (simp [*, errW_none, errW_some] <;> rfl), by first | exact Kd.R_nil _ _ _ _ _ | exact Kd.N_nil _ _ _ _ _ | exact Kd.V_nil _ _ _ _ _ | exact Kd.Q_nil _ _ _ _ _ | exact Kd.S_nil _ _ _ _ _, bU HB⟩
 ·rw [if_neg c3] at H
  have c3b0 : ((l0.length : Int) == 0) = false := beq_eq_false_iff_ne.mpr c3
  have c3b1 : ((l0.length : Int) != 0) = true := bne_iff_ne.mpr c3
  have c3b2 : ¬ (l0 = []) := fun h_ => c3 (by rw [h_]; rfl)
  obtain ⟨ji4, hji4⟩ : ∃ j_ : Int, (wrap64 (Int.tdiv a1 32)) = j_ := ⟨_, rfl⟩
  (first | rw [hji4] at H | simp only [hji4] at H)
  have hji4w : (IntKind.i64.wrap (Int.tdiv a1 32)) = ji4 := (i64_w _).trans hji4
  by_cases c5 : 0 ≤ (ji4)
  ·rw [if_pos c5] at H
   have c5b0 := eq_true c5
   have c5b1 := decide_eq_true c5
   clear c5
   by_cases c6 : (ji4 : Int).toNat ≤ 70368744177664
   ·rw [if_pos c6] at H
    have c6b0 := eq_true c6
    have c6b1 := decide_eq_true c6
    clear c6
    obtain ⟨y682, hy682⟩ : ∃ y_ : List Int, y_ = (List.replicate (ji4 : Int).toNat 0) := ⟨_, rfl⟩
    try rw [← hy682] at H
    have Ny682 := Aside0.mk hy682
    clear hy682
    have H' := Aside0.mk H
    clear H
    go_enter Try.func56, Try.ntmps56
    go_wp2_with (first | ((with_reducible refine gate_dst (N := 14) rfl ?_); refine Kd.R_make (Kd.int .u32) _ 42 rfl (N := 14) rfl 22 _ _ rfl ji4 (by first | rfl | (rw [← hji4]; rfl)) (by first | rfl | (rw [← hji4]; rfl)) Try.underlying22 (.int .u32 0) 4 info42 rfl (by decide) (by omega) 0 (ok := fun _ => True) (okp := fun _ => True) rfl (fun _ hk => hk) trivial od (Nat.le_trans (Nat.mul_le_mul_right _ (of_decide_eq_true (by first | (with_reducible assumption) | assumption) : ji4.toNat ≤ 70368744177664)) (by omega)) (Below.refl _ _) (Nat.le_refl _) ?_; intro v683 w7 ho8 hb hg_ hnew_; clear hg_ hnew_; (first | rw [← Ny682.out] at ho8 | (simp only [Int.reduceToNat] at ho8; rw [← Ny682.out] at ho8)); have HO684 := rL ho8 HB; replace HB := bS HB hb; clear hb ho8))
    go_loopg [5, 7, 8] k (fun kq v5 v7 v8 w' => ∃ (x5_1 : List Int) (x7_1 : Int) (x8_1 : Int), v7 = .int .u64 x7_1 ∧ v8 = .int .i64 x8_1 ∧ Aside0 (cutplaneref01_Up.l0 kq l0 x5_1 (Int.tmod a1 32) x7_1 x8_1 = some r) ∧ Aside0 (kq ≤ k) ∧ Aside0 (Kd.R (Kd.int .u32) 42 w' w.heap.size (fun _ => True) v5 x5_1) ∧ Aside0 (Below w.heap.size w w'))
    case atStart => exact ⟨(y682), (0), (0), es, es, H', ⟨Nat.le_refl _⟩, ⟨rU HO684⟩, ⟨bU HB⟩⟩
    case round =>
     clear H'
     try clear p2; try clear c3; try clear c3b0; try clear c3b1; try clear c3b2; try clear c5; try clear c5b0; try clear c5b1; try clear c6; try clear c6b0; try clear c6b1; try clear p6
     obtain ⟨x5_1, x7_1, x8_1, rfl, rfl, HA, HK1, HO_5, HB⟩ := hrel
     cases gk with
     | zero => exact absurd HA.out (by simp [cutplaneref01_Up.l0])
     | succ k1 =>
      have H := HA.out
      clear HA
      simp only [cutplaneref01_Up.l0] at H
      by_cases c9 : x8_1 < (l0.length : Int)
      ·rw [if_pos c9] at H
       have c9b0 := decide_eq_true c9
       clear c9
       by_cases c10 : 0 ≤ x8_1
       ·rw [if_pos c10] at H
        have c10b0 := decide_eq_true c10
        clear c10
        obtain ⟨ji11, hji11⟩ : ∃ j_ : Int, (Int.tmod a1 32) = j_ := ⟨_, rfl⟩
        (first | rw [hji11] at H | simp only [hji11] at H)
        by_cases c12 : 0 ≤ (ji11)
        ·rw [if_pos c12] at H
         have c12b0 := eq_true c12
         have c12b1 := decide_eq_true c12
         clear c12
         obtain ⟨ji13, hji13⟩ : ∃ j_ : Int, (shl .u64 (IntKind.u64.wrap (rd l0 x8_1)) (ji11)) = j_ := ⟨_, rfl⟩
         (first | rw [hji13] at H | simp only [hji13] at H)
         have hji13_ : (IntKind.u64.wrap ((IntKind.u64.wrap (rd l0 x8_1)) * 2 ^ min (ji11).toNat 64)) = ji13 := hji13
         have hji13z : (ji11) ≤ 64 → (IntKind.u64.wrap ((IntKind.u64.wrap (rd l0 x8_1)) * 2 ^ (ji11).toNat)) = ji13 := shl_small hji13
         by_cases c14 : x5_1.length < 35184372088832
         ·rw [if_pos c14] at H
          have LMc14 := Aside0.mk c14
          clear c14
          obtain ⟨y686, hy686⟩ : ∃ y_ : List Int, y_ = (x5_1 ++ [(Go.bits .or .u64 x7_1 (ji13)) % 4294967296]) := ⟨_, rfl⟩
          try rw [← hy686] at H
          have Ny686 := Aside0.mk hy686
          clear hy686
          have H' := Aside0.mk H
          clear H
          have p685 : 0 ≤ (x8_1 : Int) := of_decide_eq_true (by first | (with_reducible assumption) | assumption)
          have q685 : x8_1 < (l0.length : Int) := of_decide_eq_true (by first | (with_reducible assumption) | assumption)
          obtain ⟨ad685, e685, hx685_0⟩ := Kd.at_int HR0.out x8_1 p685 q685
          cases e685
          replace hx685_0 := (HB.out.cell (World.block_lt_of_cell? w _ hx685_0)).trans hx685_0
          replace p685 := eq_true p685
          replace q685 := eq_true q685
          go_wp2_with (first | ((with_reducible refine gate_builtin (b := .append) (xs := #[.tmp 32, .tmp 35]) rfl ?_); at_builtin; refine Kd.R_append (Kd.int .u32) (w0 := w) w.heap.size rfl (.tmp 32) (.tmp 35) 22 42 (.int .u32 0) 4 rfl Try.underlying22 info42 rfl (by decide) (by omega) u5 x5_1 ((Go.bits .or .u64 x7_1 (ji13)) % 4294967296) [.int .u32 ((Go.bits .or .u64 x7_1 (ji13)) % 4294967296)] (fun _ => True) (fun _ => False) rfl rfl ?aP (fun _ hk => hk.elim) ?aF ?aO ?aB ?aS ?aL ?_; (case aP => exact rfl); (case aB => exact (bU HB)); (case aF => exact (fun _ _ => trivial)); (case aO => exact (rU HO_5)); (case aS => exact (below_size (bU HB))); (case aL => have := LMc14.out; omega); intro v687 w15 ho hb hg hat; rw [← Ny686.out] at ho; replace HB := Aside0.mk (hb); have HO688 := Aside0.mk (ho); clear HO_5; clear ho hb hg hat))
          (try simp only [← hji11] at H' ⊢)
          go_roundg k1
          case measure => have := HK1.out; omega
          case rel => exact ⟨(y686), ((Go.bits .or .u64 x7_1 (ji13)) / 4294967296), (wrap64 (x8_1 + 1)), (by first | rfl | (simp; done) | (simp only [← hji13] <;> (first | rfl | simp)) | (simp [*]; done)), es, H', ⟨by have := HK1.out; omega⟩, ⟨rU HO688⟩, ⟨bU HB⟩⟩
         ·rw [if_neg c14] at H
          exact absurd H (by simp)
        ·rw [if_neg c12] at H
         exact absurd H (by simp)
       ·rw [if_neg c10] at H
        exact absurd H (by simp)
      ·rw [if_neg c9] at H
       have c9b0 := decide_eq_false c9
       clear c9
       by_cases c16 : x5_1.length < 35184372088832
       ·rw [if_pos c16] at H
        have LMc16 := Aside0.mk c16
        clear c16
        obtain ⟨y689, hy689⟩ : ∃ y_ : List Int, y_ = (x5_1 ++ [(x7_1) % 4294967296]) := ⟨_, rfl⟩
        try rw [← hy689] at H
        have Ny689 := Aside0.mk hy689
        clear hy689
        replace H := oc H
        obtain ⟨t692, A17, H⟩ := H
        obtain rfl := Option.some.inj H
        go_wp2_with (first | ((with_reducible refine gate_builtin (b := .append) (xs := #[.tmp 39, .tmp 42]) rfl ?_); at_builtin; refine Kd.R_append (Kd.int .u32) (w0 := w) w.heap.size rfl (.tmp 39) (.tmp 42) 22 42 (.int .u32 0) 4 rfl Try.underlying22 info42 rfl (by decide) (by omega) u5 x5_1 ((x7_1) % 4294967296) [.int .u32 ((x7_1) % 4294967296)] (fun _ => True) (fun _ => False) rfl rfl ?aP (fun _ hk => hk.elim) ?aF ?aO ?aB ?aS ?aL ?_; (case aP => exact rfl); (case aB => exact (bU HB)); (case aF => exact (fun _ _ => trivial)); (case aO => exact (rU HO_5)); (case aS => exact (below_size (bU HB))); (case aL => have := LMc16.out; omega); intro v690 w18 ho hb hg hat; rw [← Ny689.out] at ho; replace HB := Aside0.mk (hb); have HO691 := Aside0.mk (ho); clear HO_5; clear ho hb hg hat; obtain ⟨Ao19, co19, rfl⟩ := Kd.R_slice HO691.out) | ((with_reducible refine gc 42 rfl ?_); refine gL (some 44) Try.func42 #[.slice Ao19 y689.length co19] ?_; (with_reducible refine (cutplaneref01_Trim.calls k1 (fun k_ => some k_ = (.slice Ao19 y689.length co19 : Value).ownBlock) (.slice Ao19 y689.length co19) y689 t692 w _ ?side1 ?side2 A17.out).mono ?_); (case side1 => exact bU HB); (case side2 => exact Kd.R_tight rfl HO691.out); rintro e w20 ⟨v693, rfl, ho0, hb, hkp⟩; refine ⟨_, rfl, ?_⟩; have HO694 := Aside0.mk (Kd.R_mono (ok' := fun k_ => True) ho0 (fun k_ hk_ => trivial)); replace HB := Aside0.mk (hb); clear HO691; clear hb hkp ho0))
        go_ret
        exact ⟨_, by first | rfl | (simp [errW_none, errW_some] <;> rfl) | (simp only [← hji4]; first | rfl | (simp [errW_none, errW_some] <;> rfl)) | (simp [*, errW_none, errW_some] <;> rfl), rU HO694, bU HB⟩
       ·rw [if_neg c16] at H
        exact absurd H (by simp)
   ·rw [if_neg c6] at H
    exact absurd H (by simp)
  ·rw [if_neg c5] at H
   exact absurd H (by simp)

end Go.Proofs.Ytldcelgbinenbaa.Px

namespace Go.Proofs.Ytldcelgbinenbaa.Px
open Go.RowKit Go.Proofs.YtldcelgbinenbaaW.PrintWords Go.Proofs.YtldcelgbinenbaaW.PrintLast Go.Proofs.YtldcelgbinenbaaW.PrintMore
attribute [local go_sem] max2_int min2_int max_two min_two max_three min_three max_four min_four   -- for this text's walks alone
set_option linter.unusedVariables false
set_option linter.unusedSimpArgs false

/-! ### cutplaneref01_QuoRem: function 38 -/
mutual
def cutplaneref01_QuoRem.l0 : Nat → List Int → List Int → List Int → List Int → Int → Option (List Int × List Int)
 | 0, _, _, _, _, _ => none
 | k + 1, x0, x1, x6, x8, x10 => if x10 ≥ 0 then ((cutplaneref01_Up.f k x8 1).bind fun t714 => ((cutplaneref01_Bit.f x0 x10).bind fun t717 => (if t717 = 1 then ((cutplaneref01_Add.f k t714 (([1] : List Int))).bind fun t721 => (cutplaneref01_QuoRem.j1 k x0 x1 x6 t721 x10)) else (cutplaneref01_QuoRem.j1 k x0 x1 x6 t714 x10)))) else ((cutplaneref01_Trim.f k x6).bind fun t711 => (some (t711, x8)))
def cutplaneref01_QuoRem.j1 : Nat → List Int → List Int → List Int → List Int → Int → Option (List Int × List Int)
 | 0, _, _, _, _, _ => none
 | k + 1, x0, x1, x6, x8, x10 => (cutplaneref01_Cmp.f k x8 x1).bind fun t724 => (if t724 ≥ 0 then ((cutplaneref01_Sub.f k x8 x1).bind fun t725 => (if 0 ≤ (wrap64 (Int.tdiv x10 32)) then (if (wrap64 (Int.tdiv x10 32)) < (x6.length : Int) then (if 0 ≤ (Int.tmod x10 32) then (cutplaneref01_QuoRem.l0 k x0 x1 (x6.set ((wrap64 (Int.tdiv x10 32)) : Int).toNat (Go.bits .or .u32 (rd x6 (wrap64 (Int.tdiv x10 32))) (shl .u32 1 (Int.tmod x10 32)))) t725 (wrap64 (x10 - 1))) else (none)) else (none)) else (none))) else (cutplaneref01_QuoRem.l0 k x0 x1 x6 x8 (wrap64 (x10 - 1))))
end
def cutplaneref01_QuoRem.f (k : Nat) (l0 : List Int) (l1 : List Int) : Option (List Int × List Int) := if (l1.length : Int) = 1 then (if 0 < (l1.length : Int) then ((cutplaneref01_byDigit.f k l0 (rd l1 0)).bind fun bt696 => (some (bt696.1, bt696.2))) else (none)) else (if 0 ≤ (l0.length : Int) then (if ((l0.length : Int) : Int).toNat ≤ 70368744177664 then ((cutplaneref01_Len.f k l0).bind fun t705 => ((cutplaneref01_Len.f k l1).bind fun t706 => ((cutplaneref01_Down.f k l0 (mx 0 (wrap64 ((wrap64 (t705 - t706)) + 1)))).bind fun bt707 => (cutplaneref01_QuoRem.l0 k l0 l1 (List.replicate ((l0.length : Int) : Int).toNat 0) bt707.1 (wrap64 ((mx 0 (wrap64 ((wrap64 (t705 - t706)) + 1))) - 1)))))) else (none)) else (none))
theorem cutplaneref01_QuoRem.mono_l : ∀ k, (∀ y0 y1 y2 y3 y4, LeO (cutplaneref01_QuoRem.l0 k y0 y1 y2 y3 y4) (cutplaneref01_QuoRem.l0 (k + 1) y0 y1 y2 y3 y4)) ∧ (∀ y0 y1 y2 y3 y4, LeO (cutplaneref01_QuoRem.j1 k y0 y1 y2 y3 y4) (cutplaneref01_QuoRem.j1 (k + 1) y0 y1 y2 y3 y4))
 | 0 => ⟨fun _ _ _ _ _ r h => by simp [cutplaneref01_QuoRem.l0] at h, fun _ _ _ _ _ r h => by simp [cutplaneref01_QuoRem.j1] at h⟩
 | k + 1 => by
  obtain ⟨ih0, ih1⟩ := cutplaneref01_QuoRem.mono_l k
  refine ⟨?_, ?_⟩
  ·intro y0 y1 y2 y3 y4
   unfold cutplaneref01_QuoRem.l0
   repeat' (with_reducible first | exact ih0 _ _ _ _ _ | exact ih1 _ _ _ _ _ | exact cutplaneref01_Add.mono _ _ _ | exact cutplaneref01_Cmp.mono _ _ _ | exact cutplaneref01_Down.mono _ _ _ | exact cutplaneref01_Len.mono _ _ | exact cutplaneref01_Sub.mono _ _ _ | exact cutplaneref01_Trim.mono _ _ | exact cutplaneref01_Up.mono _ _ _ | exact cutplaneref01_byDigit.mono _ _ _ | exact LeO.refl _ | exact LeO.none _ | refine LeO.ite ?_ ?_ | refine LeO.bind ?_ (fun _ => ?_))
  ·intro y0 y1 y2 y3 y4
   unfold cutplaneref01_QuoRem.j1
   repeat' (with_reducible first | exact ih0 _ _ _ _ _ | exact ih1 _ _ _ _ _ | exact cutplaneref01_Add.mono _ _ _ | exact cutplaneref01_Cmp.mono _ _ _ | exact cutplaneref01_Down.mono _ _ _ | exact cutplaneref01_Len.mono _ _ | exact cutplaneref01_Sub.mono _ _ _ | exact cutplaneref01_Trim.mono _ _ | exact cutplaneref01_Up.mono _ _ _ | exact cutplaneref01_byDigit.mono _ _ _ | exact LeO.refl _ | exact LeO.none _ | refine LeO.ite ?_ ?_ | refine LeO.bind ?_ (fun _ => ?_))
theorem cutplaneref01_QuoRem.mono : ∀ a0 a1 k, LeO (cutplaneref01_QuoRem.f k a0 a1) (cutplaneref01_QuoRem.f (k + 1) a0 a1) := by
 intro a0 a1 k
 obtain ⟨ih0, ih1⟩ := cutplaneref01_QuoRem.mono_l k
 unfold cutplaneref01_QuoRem.f
 repeat' (with_reducible first | exact ih0 _ _ _ _ _ | exact ih1 _ _ _ _ _ | exact cutplaneref01_Add.mono _ _ _ | exact cutplaneref01_Cmp.mono _ _ _ | exact cutplaneref01_Down.mono _ _ _ | exact cutplaneref01_Len.mono _ _ | exact cutplaneref01_Sub.mono _ _ _ | exact cutplaneref01_Trim.mono _ _ | exact cutplaneref01_Up.mono _ _ _ | exact cutplaneref01_byDigit.mono _ _ _ | exact LeO.refl _ | exact LeO.none _ | refine LeO.ite ?_ ?_ | refine LeO.bind ?_ (fun _ => ?_))
def cutplaneref01_QuoRem.T14 : Bool × List (List Nat × List Nat) := (true, [([], []), ([], []), ([1], [1]), ([], []), ([], []), ([4], [4]), ([3, 5], [3, 5]), ([6], [6]), ([], []), ([8], [8]), ([9], [9]), ([7, 10], [7, 10]), ([0, 2, 0, 1, 2, 3, 4, 5, 6, 7, 8, 9, 10, 11], [0, 2]), ([12, 11, 0, 1, 2, 3, 4, 5, 6, 7, 8, 9, 10, 11], [11, 12])])
def cutplaneref01_QuoRem.B14 : List Nat := [0, 0, 2, 0, 0, 16, 56, 120, 0, 256, 768, 2040, 4095, 8191]
theorem cutplaneref01_QuoRem.tab14 : rtab .any (opsOf Try.f38 14) = cutplaneref01_QuoRem.T14 := by kernel_rfl
theorem cutplaneref01_QuoRem.bits14 : waitsOk cutplaneref01_QuoRem.T14.2 cutplaneref01_QuoRem.B14 = true := by kernel_rfl
set_option maxHeartbeats 8000000 in
set_option maxRecDepth 100000 in
theorem cutplaneref01_QuoRem.calls (k : Nat) (A0 : Option Addr) (c0 : Nat) (l0 : List Int) (A1 : Option Addr) (c1 : Nat) (l1 : List Int) (r1 : List Int) (r2 : List Int) (w : World) (hr0 : Kd.C (Kd.int .u32) w A0 l0.length l0) (hc0 : l0.length ≤ c0) (hr1 : Kd.C (Kd.int .u32) w A1 l1.length l1) (hc1 : l1.length ≤ c1) (h : cutplaneref01_QuoRem.f k l0 l1 = some (r1, r2)) :
  Calls Try.prog 38 #[.slice A0 l0.length c0, .slice A1 l1.length c1] w fun e w' => ∃ v0_ v1_ : Value, e = .returned (.tuple #[v0_, v1_]) ∧ Kd.R (Kd.int .u32) 42 w' w.heap.size (fun k_ => some k_ ≠ (v1_ : Value).ownBlock) v0_ r1 ∧ Kd.R (Kd.int .u32) 42 w' w.heap.size (fun k_ => some k_ ≠ (v0_ : Value).ownBlock) v1_ r2 ∧ Below w.heap.size w w' := by
 have HR0 := Aside0.mk hr0
 have HC0 := Aside0.mk hc0
 clear hr0 hc0
 have HR1 := Aside0.mk hr1
 have HC1 := Aside0.mk hc1
 clear hr1 hc1
 have HB := Aside0.mk (Below.refl w.heap.size w)
 have H := h
 unfold cutplaneref01_QuoRem.f at H
 clear h
 by_cases c3 : (l1.length : Int) = 1
 ·rw [if_pos c3] at H
  have c3b0 : ((l1.length : Int) == 1) = true := beq_iff_eq.mpr c3
  have c3b1 : ((l1.length : Int) != 1) = false := bne_eq_false_iff_eq.mpr c3
  clear c3
  by_cases c4 : 0 < (l1.length : Int)
  ·rw [if_pos c4] at H
   have c4b0 := decide_eq_true c4
   have c4b1 : decide (0 < l1.length) = true := decide_eq_true (by omega)
   clear c4
   replace H := oc H
   obtain ⟨⟨t696, t697⟩, A5, H⟩ := H
   dsimp only at H
   simp only [Option.some.injEq, Prod.mk.injEq] at H
   obtain ⟨rfl, rfl⟩ := H
   have p695 : 0 ≤ (0 : Int) := (by omega)
   have q695 : 0 < (l1.length : Int) := of_decide_eq_true (by first | (with_reducible assumption) | assumption)
   obtain ⟨ad695, e695, hx695_0⟩ := Kd.at_int HR1.out 0 p695 q695
   cases e695
   have qi695 : (0 < l1.length) = True := eq_true (by omega)
   (try rw [show ((0 : Int)).toNat = 0 from rfl] at hx695_0)
   (try rw [Addr.add_zero'] at hx695_0)
   replace p695 := eq_true p695
   replace q695 := eq_true q695
   go_enter Try.func38, Try.ntmps38
   go_wp2_with (first | ((with_reducible refine gc 52 rfl ?_); refine gL (some 18) Try.func52 #[.slice A0 l0.length c0, .int .u32 (rd l1 0)] ?_; (with_reducible refine (cutplaneref01_byDigit.calls k _ _ l0 (rd l1 0) t696 t697 _ ?side1 ?side2 A5.out).mono ?_); (case side1 => exact cU HR0); (case side2 => exact HC0.out); rintro e w6 ⟨v698, v700, rfl, ho0, ho1, hb⟩; refine ⟨_, rfl, ?_⟩; have HO699 := rL ho0 HB; have HO701 := rL ho1 HB; replace HB := bS HB hb; clear hb ho0 ho1))
   go_ret2
   exact ⟨_, _, by first | rfl | (simp [errW_none, errW_some] <;> rfl) | (simp [*, errW_none, errW_some] <;> rfl), rU HO699, rU HO701, bU HB⟩
  ·rw [if_neg c4] at H
   exact absurd H (by simp)
 ·rw [if_neg c3] at H
  have c3b0 : ((l1.length : Int) == 1) = false := beq_eq_false_iff_ne.mpr c3
  have c3b1 : ((l1.length : Int) != 1) = true := bne_iff_ne.mpr c3
  by_cases c7 : 0 ≤ (l0.length : Int)
  ·rw [if_pos c7] at H
   have c7b0 := eq_true c7
   have c7b1 := decide_eq_true c7
   clear c7
   by_cases c8 : ((l0.length : Int) : Int).toNat ≤ 70368744177664
   ·rw [if_pos c8] at H
    have c8b0 := eq_true c8
    have c8b1 := decide_eq_true c8
    clear c8
    obtain ⟨y702, hy702⟩ : ∃ y_ : List Int, y_ = (List.replicate ((l0.length : Int) : Int).toNat 0) := ⟨_, rfl⟩
    try rw [← hy702] at H
    have Ny702 := Aside0.mk hy702
    clear hy702
    replace H := oc H
    obtain ⟨t705, A9, H⟩ := H
    replace H := oc H
    obtain ⟨t706, A10, H⟩ := H
    obtain ⟨ji11, hji11⟩ : ∃ j_ : Int, (mx 0 (wrap64 ((wrap64 (t705 - t706)) + 1))) = j_ := ⟨_, rfl⟩
    (first | rw [hji11] at H | simp only [hji11] at H)
    (try rw [hji11] at A9)
    (try rw [hji11] at A10)
    (try (have hji11l : 0 ≤ ji11 := by (rw [← hji11]; unfold mx; (repeat' split) <;> omega)))
    (try (have hji11m : 0 ≤ ji11 := by omega))
    have hji11_ : (if 0 < (wrap64 ((wrap64 (t705 - t706)) + 1)) then (wrap64 ((wrap64 (t705 - t706)) + 1)) else 0) = ji11 := hji11
    replace H := oc H
    obtain ⟨⟨t707, t708⟩, A12, H⟩ := H
    dsimp only at H
    have H' := Aside0.mk H
    clear H
    go_enter Try.func38, Try.ntmps38
    go_wp2_with (first | ((with_reducible refine gate_dst (N := 23) rfl ?_); refine Kd.R_make (Kd.int .u32) _ 42 rfl (N := 23) rfl 22 _ _ rfl (l0.length : Int) rfl rfl Try.underlying22 (.int .u32 0) 4 info42 rfl (by decide) (by omega) 0 (ok := fun _ => True) (okp := fun _ => True) rfl (fun _ hk => hk) trivial od (Nat.le_trans (Nat.mul_le_mul_right _ (of_decide_eq_true (by first | (with_reducible assumption) | assumption) : (l0.length : Int).toNat ≤ 70368744177664)) (by omega)) (Below.refl _ _) (Nat.le_refl _) ?_; intro v703 w13 ho14 hb hg_ hnew_; clear hg_ hnew_; (first | rw [← Ny702.out] at ho14 | (simp only [Int.reduceToNat] at ho14; rw [← Ny702.out] at ho14)); have HO704 := rL ho14 HB; replace HB := bS HB hb; clear hb ho14) | ((with_reducible refine gc 50 rfl ?_); refine gL (some 25) Try.func50 #[.slice A0 l0.length c0] ?_; (with_reducible refine (cutplaneref01_Len.calls k _ _ l0 t705 _ ?side1 ?side2 A9.out).mono ?_); (case side1 => exact cB HR0 HB); (case side2 => exact HC0.out); rintro e w' ⟨rfl, ⟨nd, rfl⟩⟩; refine ⟨_, rfl, ?_⟩) | ((with_reducible refine gc 50 rfl ?_); refine gL (some 27) Try.func50 #[.slice A1 l1.length c1] ?_; (with_reducible refine (cutplaneref01_Len.calls k _ _ l1 t706 _ ?side1 ?side2 A10.out).mono ?_); (case side1 => exact cB HR1 HB); (case side2 => exact HC1.out); rintro e w' ⟨rfl, ⟨nd, rfl⟩⟩; refine ⟨_, rfl, ?_⟩) | ((with_reducible refine gc 55 rfl ?_); refine goesL_ (some 34) rfl rfl Try.func55 (by kernel_rfl) rfl #[.slice A0 l0.length c0, .int .i64 ji11] rfl (by (try simp only [List.map_toArray, List.map_cons, List.map_nil]); first | done | (simp only [hji11]; rfl) | rfl | (simp only [List.length_drop, List.length_take]; rfl)) ?_; (with_reducible refine (cutplaneref01_Down.calls k _ _ l0 ji11 t707 t708 _ ?side1 ?side2 A12.out).mono ?_); (case side1 => exact cB HR0 HB); (case side2 => exact HC0.out); rintro e w15 ⟨v709, rfl, ho0, hb⟩; refine ⟨_, rfl, ?_⟩; have HO710 := rL (rX ho0 HO704) HB; replace HO704 := rE HO704 ho0 hb; replace HB := bS HB hb; clear hb ho0))
    go_loopg [8, 10] k (fun kq v8 v10 w' => ∃ (x6_1 : List Int) (x8_1 : List Int) (x10_1 : Int), v10 = .int .i64 x10_1 ∧ Aside0 (cutplaneref01_QuoRem.l0 kq l0 l1 x6_1 x8_1 x10_1 = some (r1, r2)) ∧ Aside0 (kq ≤ k) ∧ Aside0 (Kd.R (Kd.int .u32) 42 w' w.heap.size (fun k_ => some k_ ≠ (v8 : Value).ownBlock) v703 x6_1) ∧ Aside0 (Kd.R (Kd.int .u32) 42 w' w.heap.size (fun k_ => some k_ ≠ (v703 : Value).ownBlock) v8 x8_1) ∧ Aside0 (Below w.heap.size w w'))
    case atStart => exact ⟨(y702), (t707), (wrap64 ((ji11) - 1)), (by first | rfl | (simp; done) | (simp only [← hji11] <;> (first | rfl | simp)) | (simp [*]; done)), H', ⟨Nat.le_refl _⟩, ⟨by (with_reducible repeat (first | apply Kd.R_alloc | apply Kd.R_drewN | apply Kd.R_drew)); exact Kd.R_mono HO704.out (fun _ hk => hk.2)⟩, ⟨by (with_reducible repeat (first | apply Kd.R_alloc | apply Kd.R_drewN | apply Kd.R_drew)); exact Kd.R_mono HO710.out (fun _ hk => hk.2)⟩, ⟨bU HB⟩⟩
    case round =>
     clear H'
     try clear c1; try clear p2; try clear c3; try clear c3b0; try clear c3b1; try clear c4; try clear c4b0; try clear c4b1; try clear c5; try clear p6; try clear q6; try clear hx6; try clear qi6; try clear c7; try clear c7b0; try clear c7b1; try clear c8; try clear c8b0; try clear c8b1; try clear hx695_0; try clear p695; try clear q695
     obtain ⟨x6_1, x8_1, x10_1, rfl, HA, HK1, HO_6, HO_8, HB⟩ := hrel
     cases gk with
     | zero => exact absurd HA.out (by simp [cutplaneref01_QuoRem.l0])
     | succ k1 =>
      have H := HA.out
      clear HA
      simp only [cutplaneref01_QuoRem.l0] at H
      by_cases c16 : x10_1 ≥ 0
      ·rw [if_pos c16] at H
       have c16b0 : decide (0 ≤ x10_1) = true := decide_eq_true c16
       clear c16
       replace H := oc H
       obtain ⟨t714, A17, H⟩ := H
       replace H := oc H
       obtain ⟨t717, A18, H⟩ := H
       have HC19 := Aside0.mk H
       clear H
       obtain ⟨Ao20, co20, eo20⟩ := Kd.R_slice HO_8.out
       subst eo20
       go_upto_if 48 with (first | ((with_reducible refine gc 56 rfl ?_); refine gL (some 44) Try.func56 #[.slice Ao20 x8_1.length co20, .int .i64 1] ?_; (with_reducible refine (cutplaneref01_Up.calls k1 _ _ x8_1 1 t714 _ ?side1 ?side2 A17.out).mono ?_); (case side1 => exact rC HO_8); (case side2 => exact rN HO_8); rintro e w21 ⟨v715, rfl, ho0, hb⟩; refine ⟨_, rfl, ?_⟩; have HO716 := rL (rX (rX ho0 HO_6) HO_8) HB; replace HO_6 := rE HO_6 ho0 hb; replace HO_8 := rE HO_8 ho0 hb; replace HB := bS HB hb; clear hb ho0) | ((with_reducible refine gc 57 rfl ?_); refine gL (some 47) Try.func57 #[.slice A0 l0.length c0, .int .i64 x10_1] ?_; (with_reducible refine (cutplaneref01_Bit.calls _ _ l0 x10_1 t717 _ ?side1 ?side2 A18.out).mono ?_); (case side1 => exact cB HR0 HB); (case side2 => exact HC0.out); rintro e w' ⟨rfl, ⟨nd, rfl⟩⟩; refine ⟨_, rfl, ?_⟩))
       (try simp only [Act.put, List.setIfInBounds_toArray, List.set_cons_zero, List.set_cons_succ])
       go_cut [8] (fun v8 wc => ∃ (kq : Nat) (x8_18 : List Int), Aside0 (cutplaneref01_QuoRem.j1 kq l0 l1 x6_1 x8_18 x10_1 = some (r1, r2)) ∧ Aside0 (kq ≤ k1) ∧ Aside0 (Kd.R (Kd.int .u32) 42 wc w.heap.size (fun k_ => some k_ ≠ (v8 : Value).ownBlock) v703 x6_1) ∧ Aside0 (Kd.R (Kd.int .u32) 42 wc w.heap.size (fun k_ => some k_ ≠ (v703 : Value).ownBlock) v8 x8_18) ∧ Aside0 (Below w.heap.size w wc))
       case first =>
        have H := HC19.out
        clear HC19
        by_cases c22 : t717 = 1
        ·rw [if_pos c22] at H
         have c22b0 : (t717 == 1) = true := beq_iff_eq.mpr c22
         have c22b1 : (t717 != 1) = false := bne_eq_false_iff_eq.mpr c22
         clear c22
         (first | rw [c22b0] | rw [c22b1] | (simp only [i64_w, i32_w]; rw [c22b0]) | skip)
         obtain ⟨y718, hy718⟩ : ∃ y_ : List Int, y_ = (([1] : List Int)) := ⟨_, rfl⟩
         replace H : ((cutplaneref01_Add.f k1 t714 y718).bind fun t721 => (cutplaneref01_QuoRem.j1 k1 l0 l1 x6_1 t721 x10_1)) = some (r1, r2) := by first | (rw [hy718]; with_reducible exact H) | (have H2_ := (Option.bind_some _ _).symm.trans H; rw [hy718]; with_reducible exact H2_) | (have H2_ := (Option.bind_some _ _).symm.trans H; with_reducible exact H2_) | with_reducible exact H | (rw [hy718]; exact H) | exact H
         have Ny718 := Aside0.mk hy718
         clear hy718
         replace H := oc H
         obtain ⟨t721, A23, H⟩ := H
         have H' := Aside0.mk H
         clear H
         go_wp2_with (first | ((with_reducible refine gate_dst (N := 50) rfl ?_); refine Kd.R_lit (Kd.int .u32) _ 42 ?hg (N := 50) ?hd (xs := ([1] : List Int)) (inner := [.int .u32 1]) (ok := fun _ => True) (okp := fun _ => True) ?hr ?hp (fun _ hk => hk) trivial (Below.refl _ _) (Nat.le_refl _) (by simp) ?_; (case hd => rfl); (case hg => rfl); (case hr => first | (go_simp; done) | (go_simp; rfl)); (case hp => exact (Reps.one (show Kd.M (Kd.int .u32) _ _ _ 1 [.int .u32 1] from rfl) (Reps.none _ _))); intro v719 w24 ho25 hb hg_ hnew_; clear hg_ hnew_; (first | rw [← Ny718.out] at ho25 | (simp only [Int.reduceToNat] at ho25; rw [← Ny718.out] at ho25)); have HO720 := rL (rX (rX (rX ho25 HO_6) HO_8) HO716) HB; replace HO_6 := rE HO_6 ho25 hb; replace HO_8 := rE HO_8 ho25 hb; replace HO716 := rE HO716 ho25 hb; replace HB := bS HB hb; clear hb ho25; obtain ⟨Ao26, co26, rfl⟩ := Kd.R_slice HO716.out; obtain ⟨Ao27, co27, rfl⟩ := Kd.R_slice HO720.out) | ((with_reducible refine gc 25 rfl ?_); refine gL (some 51) Try.func25 #[.slice Ao26 t714.length co26, .slice Ao27 y718.length co27] ?_; (with_reducible refine (cutplaneref01_Add.calls k1 _ _ t714 _ _ y718 t721 _ ?side1 ?side2 ?side3 ?side4 A23.out).mono ?_); (case side1 => exact rC HO716); (case side2 => exact rN HO716); (case side3 => exact rC HO720); (case side4 => exact rN HO720); rintro e w28 ⟨v722, rfl, ho0, hb⟩; refine ⟨_, rfl, ?_⟩; have HO723 := rL (rX (rX (rX (rX ho0 HO_6) HO_8) HO716) HO720) HB; replace HO_6 := rE HO_6 ho0 hb; replace HO_8 := rE HO_8 ho0 hb; replace HO716 := rE HO716 ho0 hb; replace HO720 := rE HO720 ho0 hb; replace HB := bS HB hb; clear hb ho0))
         go_meet
         case rel => exact ⟨_, (t721), H', ⟨by have := HK1.out; first | omega | exact Nat.le_refl _⟩, ⟨by (with_reducible repeat (first | apply Kd.R_alloc | apply Kd.R_drewN | apply Kd.R_drew)); exact Kd.R_mono HO_6.out (fun _ hk => hk.2)⟩, ⟨by (with_reducible repeat (first | apply Kd.R_alloc | apply Kd.R_drewN | apply Kd.R_drew)); exact Kd.R_mono HO723.out (fun _ hk => hk.1.1.1.2)⟩, ⟨bU HB⟩⟩
        ·rw [if_neg c22] at H
         have c22b0 : (t717 == 1) = false := beq_eq_false_iff_ne.mpr c22
         have c22b1 : (t717 != 1) = true := bne_iff_ne.mpr c22
         (first | rw [c22b0] | rw [c22b1] | (simp only [i64_w, i32_w]; rw [c22b0]) | skip)
         have H' := Aside0.mk H
         clear H
         go_wp2
         go_meet
         case rel => exact ⟨_, (t714), H', ⟨by have := HK1.out; first | omega | exact Nat.le_refl _⟩, ⟨by (with_reducible repeat (first | apply Kd.R_alloc | apply Kd.R_drewN | apply Kd.R_drew)); exact Kd.R_mono HO_6.out (fun _ hk => hk.2)⟩, ⟨by (with_reducible repeat (first | apply Kd.R_alloc | apply Kd.R_drewN | apply Kd.R_drew)); exact Kd.R_mono HO716.out (fun _ hk => hk.1.2)⟩, ⟨bU HB⟩⟩
       case rest =>
        clear HC19
        try clear c1; try clear c2; try clear p2; try clear c3; try clear c3b0; try clear c3b1; try clear c4; try clear c4b0; try clear c4b1; try clear c5; try clear p6; try clear q6; try clear hx6; try clear qi6; try clear c7; try clear c7b0; try clear c7b1; try clear c8; try clear c8b0; try clear c8b1; try clear c16; try clear c16b0; try clear c22; try clear c22b0; try clear c22b1; try clear c25; try clear hx695_0; try clear p2; try clear p6; try clear p695; try clear q6; try clear q695
        obtain ⟨kq, x8_18, HA, HJ18, HO_6, HO_8, HB⟩ := hcut
        cases kq with
        | zero => exact absurd HA.out (by simp [cutplaneref01_QuoRem.j1])
        | succ kj18 =>
         have H := HA.out
         clear HA
         simp only [cutplaneref01_QuoRem.j1] at H
         replace H := oc H
         obtain ⟨t724, A29, H⟩ := H
         by_cases c30 : t724 ≥ 0
         ·rw [if_pos c30] at H
          have c30b0 : decide (0 ≤ t724) = true := decide_eq_true c30
          clear c30
          replace H := oc H
          obtain ⟨t725, A31, H⟩ := H
          obtain ⟨ji32, hji32⟩ : ∃ j_ : Int, (wrap64 (Int.tdiv x10_1 32)) = j_ := ⟨_, rfl⟩
          (first | rw [hji32] at H | simp only [hji32] at H)
          (try rw [hji32] at A29)
          (try rw [hji32] at A31)
          have hji32w : (IntKind.i64.wrap (Int.tdiv x10_1 32)) = ji32 := (i64_w _).trans hji32
          by_cases c33 : 0 ≤ (ji32)
          ·rw [if_pos c33] at H
           have c33b0 := decide_eq_true c33
           clear c33
           by_cases c34 : (ji32) < (x6_1.length : Int)
           ·rw [if_pos c34] at H
            have c34b0 := decide_eq_true c34
            clear c34
            obtain ⟨ji35, hji35⟩ : ∃ j_ : Int, (Int.tmod x10_1 32) = j_ := ⟨_, rfl⟩
            (first | rw [hji35] at H | simp only [hji35] at H)
            (try rw [hji35] at A29)
            (try rw [hji35] at A31)
            by_cases c36 : 0 ≤ (ji35)
            ·rw [if_pos c36] at H
             have c36b0 := eq_true c36
             have c36b1 := decide_eq_true c36
             clear c36
             obtain ⟨ji37, hji37⟩ : ∃ j_ : Int, (shl .u32 1 (ji35)) = j_ := ⟨_, rfl⟩
             (first | rw [hji37] at H | simp only [hji37] at H)
             (try rw [hji37] at A29)
             (try rw [hji37] at A31)
             have hji37_ : (IntKind.u32.wrap (1 * 2 ^ min (ji35).toNat 32)) = ji37 := hji37
             have hji37z : (ji35) ≤ 32 → (IntKind.u32.wrap (1 * 2 ^ (ji35).toNat)) = ji37 := shl_small hji37
             have hji37u : (IntKind.u32.wrap (2 ^ min (ji35).toNat 32)) = ji37 := by have h_ := hji37_; rw [Int.one_mul] at h_; exact h_
             have hji37v : (ji35) ≤ 32 → (IntKind.u32.wrap (2 ^ (ji35).toNat)) = ji37 := fun hle_ => by have h_ := hji37z hle_; rw [Int.one_mul] at h_; exact h_
             obtain ⟨y729, hy729⟩ : ∃ y_ : List Int, y_ = (x6_1.set ((ji32) : Int).toNat (Go.bits .or .u32 (rd x6_1 (ji32)) (ji37))) := ⟨_, rfl⟩
             try rw [← hy729] at H
             have Ny729 := Aside0.mk hy729
             clear hy729
             have H' := Aside0.mk H
             clear H
             obtain ⟨Ao39, co39, eo39⟩ := Kd.R_slice HO_8.out
             subst eo39
             try go_wp2_with (first | ((with_reducible refine gc 24 rfl ?_); refine gL (some 54) Try.func24 #[.slice Ao39 x8_18.length co39, .slice A1 l1.length c1] ?_; (with_reducible refine (cutplaneref01_Cmp.calls kj18 _ _ x8_18 _ _ l1 t724 _ ?side1 ?side2 ?side3 ?side4 A29.out).mono ?_); (case side1 => exact rC HO_8); (case side2 => exact rN HO_8); (case side3 => exact cB HR1 HB); (case side4 => exact HC1.out); rintro e w' ⟨rfl, ⟨nd, rfl⟩⟩; refine ⟨_, rfl, ?_⟩; (try (rw [drewN_self wc]; generalize hq_ : World.drewN wc _ = wc; have n0_ : Aside0 (Kd.R (Kd.int .u32) 42 wc w.heap.size (fun k_ => some k_ ≠ (.slice Ao39 x8_18.length co39 : Value).ownBlock) v703 x6_1) := ⟨by rw [← hq_]; exact (rU HO_6)⟩; have n1_ : Aside0 (Kd.R (Kd.int .u32) 42 wc w.heap.size (fun k_ => some k_ ≠ (v703 : Value).ownBlock) (.slice Ao39 x8_18.length co39) x8_18) := ⟨by rw [← hq_]; exact (rU HO_8)⟩; have n2_ : Aside0 (Below w.heap.size w wc) := ⟨by rw [← hq_]; exact (bU HB)⟩; clear HO_6 HO_8 HB hq_; have HO_6 := n0_; have HO_8 := n1_; have HB := n2_; clear n0_ n1_ n2_))) | ((with_reducible refine gc 26 rfl ?_); refine gL (some 58) Try.func26 #[.slice Ao39 x8_18.length co39, .slice A1 l1.length c1] ?_; (with_reducible refine (cutplaneref01_Sub.calls kj18 _ _ x8_18 _ _ l1 t725 _ ?side1 ?side2 ?side3 ?side4 A31.out).mono ?_); (case side1 => exact rC HO_8); (case side2 => exact rN HO_8); (case side3 => exact cB HR1 HB); (case side4 => exact HC1.out); rintro e w40 ⟨v726, rfl, ho0, hb⟩; refine ⟨_, rfl, ?_⟩; have HO727 := rL (rX (rX ho0 HO_6) HO_8) HB; replace HO_6 := rE HO_6 ho0 hb; replace HO_8 := rE HO_8 ho0 hb; replace HB := bS HB hb; clear hb ho0))
             have n0_ := Aside0.mk (Kd.R_drew HO_6.out)
             have n1_ := Aside0.mk (Kd.R_drew HO_8.out)
             have n2_ := Aside0.mk (Kd.R_drew HO727.out)
             have n3_ := Aside0.mk (below_drew1 HB.out)
             clear HO_6
             clear HO_8
             clear HO727
             clear HB
             have HO_6 := n0_
             have HO_8 := n1_
             have HO727 := n2_
             have HB := n3_
             clear n0_ n1_ n2_ n3_
             obtain ⟨Ao42, co42, eo42⟩ := Kd.R_slice HO_6.out
             (first | subst eo42 | (injection eo42 with f1_ f2_ f3_; have f4_ := f1_.symm; have f5_ := f3_.symm; clear f1_ f2_ f3_; subst f4_; subst f5_))
             have p728 : 0 ≤ ((ji32) : Int) := of_decide_eq_true (by first | (with_reducible assumption) | assumption)
             have q728 : (ji32) < (x6_1.length : Int) := of_decide_eq_true (by first | (with_reducible assumption) | assumption)
             obtain ⟨ad728, e728, hx728_0⟩ := Kd.at_int (Kd.R_reads' HO_6.out).2.2 (ji32) p728 q728
             cases e728
             replace p728 := eq_true p728
             replace q728 := eq_true q728
             have p38 : 0 ≤ ((ji32) : Int) := of_decide_eq_true (by first | (with_reducible assumption) | assumption)
             have q38 : ((ji32) : Int) < ((x6_1.length : Int) : Int) := of_decide_eq_true (by first | (with_reducible assumption) | assumption)
             obtain ⟨go38, co38, eo38, gb38, gl38, cl38, HG38⟩ := Kd.R_form HO_6.out (by omega)
             (first | cases eo38 | (injection eo38 with ea_ en_ ec_; (first | subst ea_ | (injection ea_ with ea_; subst ea_)); subst ec_; clear en_))
             have GB38 := Aside0.mk gb38
             have GG38 := Aside0.mk HG38
             clear gb38 gl38 HG38
             (first | simp only [add_plain] at hx728_0 | skip)
             obtain ⟨hx38_0, hf38_0⟩ := Kd.R_celln 0 HO_6.out ((ji32) : Int) p38 q38
             replace p38 := eq_true p38
             replace q38 := eq_true q38
             have HP43 := Kd.R_putn HO_6.out ((ji32) : Int) (Go.bits .or .u32 (rd x6_1 (ji32)) (ji37))
             rw [← Ny729.out] at HP43
             have HQ43 := Aside0.mk HP43
             clear HP43
             refine start_ (n := 14) (S := fun w' => w'.cell? ⟨go38, ((ji32)).toNat, none⟩ = some (.int .u32 (rd x6_1 (ji32)))) (ds := [13]) #[false, false, false, false, false, false, false, false, false, false, false, false, false, false] (by kernel_rfl) rfl rfl (hx728_0) (fun hHeld => ?_); refine with_tabW cutplaneref01_QuoRem.tab14 cutplaneref01_QuoRem.bits14 (fun HT_ HW_ => ?_)
             generalize w40.drew = w41 at HO_6 HO_8 HO727 HB GG38 HQ43 hf38_0 hx38_0 hx728_0 hHeld ⊢
             refine pure_ (i := 0) (N := some 59) (v := ?_) (a' := ?_) #[true, false, false, false, false, false, false, false, false, false, false, false, false, false] rfl rfl (any_of HT_.out (by kernel_rfl)) (fun _ _ _ h => h) (Or.inl ⟨by rfl, ?_⟩) ?_ ?_
             rotate_left
             ·intro w'
              go_simp
              with_reducible rfl
             rotate_left
             ·simp only [Act.put, List.setIfInBounds_toArray, List.set_cons_zero, List.set_cons_succ, i64_w, i32_w]
              rfl
             refine pure_ (i := 1) (N := some 60) (v := ?_) (a' := ?_) #[true, true, false, false, false, false, false, false, false, false, false, false, false, false] rfl rfl (any_of HT_.out (by kernel_rfl)) (fun _ _ _ h => h) (Or.inl ⟨by rfl, ?_⟩) ?_ ?_
             rotate_left
             ·intro w'
              go_simp
              with_reducible rfl
             rotate_left
             ·simp only [Act.put, List.setIfInBounds_toArray, List.set_cons_zero, List.set_cons_succ, i64_w, i32_w]
              rfl
             refine pure_ (i := 2) (N := some 61) (v := ?_) (a' := ?_) #[true, true, true, false, false, false, false, false, false, false, false, false, false, false] rfl rfl (any_of HT_.out (by kernel_rfl)) (fun _ _ _ h => h) (Or.inl ⟨by rfl, ?_⟩) ?_ ?_
             rotate_left
             ·intro w'
              go_simp
              with_reducible rfl
             rotate_left
             ·simp only [Act.put, List.setIfInBounds_toArray, List.set_cons_zero, List.set_cons_succ, i64_w, i32_w]
              rfl
             refine pure_ (i := 3) (N := some 62) (v := ?_) (a' := ?_) #[true, true, true, true, false, false, false, false, false, false, false, false, false, false] rfl rfl (any_of HT_.out (by kernel_rfl)) (fun _ _ _ h => h) (Or.inl ⟨by rfl, ?_⟩) ?_ ?_
             rotate_left
             ·intro w'
              go_simp
              with_reducible rfl
             rotate_left
             ·simp only [Act.put, List.setIfInBounds_toArray, List.set_cons_zero, List.set_cons_succ, i64_w, i32_w]
              rfl
             refine pure_ (i := 4) (N := some 63) (v := ?_) (a' := ?_) #[true, true, true, true, true, false, false, false, false, false, false, false, false, false] rfl rfl (any_of HT_.out (by kernel_rfl)) (fun _ _ _ h => h) (Or.inl ⟨by rfl, ?_⟩) ?_ ?_
             rotate_left
             ·intro w'
              go_simp
              with_reducible rfl
             rotate_left
             ·simp only [Act.put, List.setIfInBounds_toArray, List.set_cons_zero, List.set_cons_succ, i64_w, i32_w]
              rfl
             refine pure_ (i := 5) (N := some 64) (v := ?_) (a' := ?_) #[true, true, true, true, true, true, false, false, false, false, false, false, false, false] rfl rfl (any_of HT_.out (by kernel_rfl)) (fun _ _ _ h => h) (Or.inl ⟨by rfl, ?_⟩) ?_ ?_
             rotate_left
             ·intro w'
              go_simp
              with_reducible rfl
             rotate_left
             ·simp only [Act.put, List.setIfInBounds_toArray, List.set_cons_zero, List.set_cons_succ, i64_w, i32_w]
              rfl
             refine pure_ (i := 6) (N := some 65) (v := ?_) (a' := ?_) #[true, true, true, true, true, true, true, false, false, false, false, false, false, false] rfl rfl (any_of HT_.out (by kernel_rfl)) (fun _ _ _ h => h) (Or.inl ⟨by rfl, ?_⟩) ?_ ?_
             rotate_left
             ·intro w'
              go_simp
              with_reducible rfl
             rotate_left
             ·simp only [Act.put, List.setIfInBounds_toArray, List.set_cons_zero, List.set_cons_succ, i64_w, i32_w]
              rfl
             refine pure_ (i := 8) (N := some 67) (v := ?_) (a' := ?_) #[true, true, true, true, true, true, true, false, true, false, false, false, false, false] rfl rfl (any_of HT_.out (by kernel_rfl)) (fun _ _ _ h => h) (Or.inl ⟨by rfl, ?_⟩) ?_ ?_
             rotate_left
             ·intro w'
              go_simp
              with_reducible rfl
             rotate_left
             ·simp only [Act.put, List.setIfInBounds_toArray, List.set_cons_zero, List.set_cons_succ, i64_w, i32_w]
              rfl
             refine pure_ (i := 9) (N := some 68) (v := ?_) (a' := ?_) #[true, true, true, true, true, true, true, false, true, true, false, false, false, false] rfl rfl (any_of HT_.out (by kernel_rfl)) (fun _ _ _ h => h) (Or.inl ⟨by rfl, ?_⟩) ?_ ?_
             rotate_left
             ·intro w'
              go_simp
              with_reducible rfl
             rotate_left
             ·simp only [Act.put, List.setIfInBounds_toArray, List.set_cons_zero, List.set_cons_succ, i64_w, i32_w]
              rfl
             refine pure_ (i := 10) (N := some 69) (v := ?_) (a' := ?_) #[true, true, true, true, true, true, true, false, true, true, true, false, false, false] rfl rfl (any_of HT_.out (by kernel_rfl)) (fun _ _ _ h => h) (Or.inl ⟨by rfl, ?_⟩) ?_ ?_
             rotate_left
             ·intro w'
              go_simp
              with_reducible rfl
             rotate_left
             ·simp only [Act.put, List.setIfInBounds_toArray, List.set_cons_zero, List.set_cons_succ, i64_w, i32_w]
              rfl
             refine take_ (i := 7) (N := some 66) (v := ?_) (a' := ?_) #[true, true, true, true, true, true, true, true, true, true, true, false, false, false] rfl rfl (take_ofW HT_.out HW_.out (by kernel_rfl)) (fun _ _ _ h => h) (Or.inl ⟨by rfl, ?_⟩) hHeld ?_ ?_
             rotate_left
             ·intro w' s0
              go_simp
              with_reducible rfl
             rotate_left
             ·simp only [Act.put, List.setIfInBounds_toArray, List.set_cons_zero, List.set_cons_succ, i64_w, i32_w]
              rfl
             refine pure_ (i := 11) (N := some 70) (v := ?_) (a' := ?_) #[true, true, true, true, true, true, true, true, true, true, true, true, false, false] rfl rfl (any_of HT_.out (by kernel_rfl)) (fun _ _ _ h => h) (Or.inl ⟨by rfl, ?_⟩) ?_ ?_
             rotate_left
             ·intro w'
              go_simp
              with_reducible rfl
             rotate_left
             ·simp only [Act.put, List.setIfInBounds_toArray, List.set_cons_zero, List.set_cons_succ, i64_w, i32_w]
              rfl
             refine pure_ (i := 12) (N := some 71) (v := ?_) (a' := ?_) #[true, true, true, true, true, true, true, true, true, true, true, true, true, false] rfl rfl (any_of HT_.out (by kernel_rfl)) (fun _ _ _ h => h) (Or.inl ⟨by rfl, ?_⟩) ?_ ?_
             rotate_left
             ·intro w'
              go_simp
              with_reducible rfl
             rotate_left
             ·simp only [Act.put, List.setIfInBounds_toArray, List.set_cons_zero, List.set_cons_succ, i64_w, i32_w]
              rfl
             refine last_ (i := 13) (N := none) #[true, true, true, true, true, true, true, true, true, true, true, true, true, true] rfl rfl (one_of HT_.out (by kernel_rfl)) (by decide) (fun K hK => ?_)
             refine skip_ (w1 := ?_) (by rfl) rfl ?_ ?_
             rotate_left
             ·go_simp
              rfl
             refine hK.out _ _ ?_
             clear hK K
             refine done_ (done_of HT_.out (by kernel_rfl)) ?_
             try go_wp2
             go_roundg kj18
             case measure => have := HK1.out; have := HJ18.out; omega
             case rel => exact ⟨(y729), (t725), (wrap64 (x10_1 - 1)), es, H', ⟨by have := HK1.out; have := HJ18.out; omega⟩, ⟨by (with_reducible repeat (first | apply Kd.R_alloc | apply Kd.R_drewN | apply Kd.R_drew)); exact Kd.R_mono HQ43.out (fun _ hk => hk.2)⟩, ⟨by (with_reducible repeat (first | apply Kd.R_alloc | apply Kd.R_drewN | apply Kd.R_drew)); exact Kd.R_mono (Kd.R_far (p := ⟨go38, ((ji32) : Int).toNat, none⟩) (Kd.R_mono HO727.out (fun k_ hk => (⟨hk, fun e_ => hk.1.2 (by rw [e_]; rfl)⟩ : _ ∧ k_ ≠ go38))) (fun _ hk => hk.2) (.int .u32 (Go.bits .or .u32 (rd x6_1 (ji32)) (ji37)))) (fun _ hk => hk.1.1.2)⟩, ⟨by repeat (first | (with_reducible first | exact HB.out | apply below_alloc | apply pw_below_drewN | apply below_drew1 | refine below_set ?_ GB38.out) | exact HB.out)⟩⟩
            ·rw [if_neg c36] at H
             exact absurd H (by simp)
           ·rw [if_neg c34] at H
            exact absurd H (by simp)
          ·rw [if_neg c33] at H
           exact absurd H (by simp)
         ·rw [if_neg c30] at H
          have c30b0 : decide (0 ≤ t724) = false := decide_eq_false c30
          clear c30
          have H' := Aside0.mk H
          clear H
          obtain ⟨Ao44, co44, eo44⟩ := Kd.R_slice HO_8.out
          subst eo44
          go_wp2_with (first | ((with_reducible refine gc 24 rfl ?_); refine gL (some 54) Try.func24 #[.slice Ao44 x8_18.length co44, .slice A1 l1.length c1] ?_; (with_reducible refine (cutplaneref01_Cmp.calls kj18 _ _ x8_18 _ _ l1 t724 _ ?side1 ?side2 ?side3 ?side4 A29.out).mono ?_); (case side1 => exact rC HO_8); (case side2 => exact rN HO_8); (case side3 => exact cB HR1 HB); (case side4 => exact HC1.out); rintro e w' ⟨rfl, ⟨nd, rfl⟩⟩; refine ⟨_, rfl, ?_⟩))
          go_roundg kj18
          case measure => have := HK1.out; have := HJ18.out; omega
          case rel => exact ⟨(x6_1), (x8_18), (wrap64 (x10_1 - 1)), es, H', ⟨by have := HK1.out; have := HJ18.out; omega⟩, ⟨rU HO_6⟩, ⟨rU HO_8⟩, ⟨bU HB⟩⟩
      ·rw [if_neg c16] at H
       have c16b0 : decide (0 ≤ x10_1) = false := decide_eq_false c16
       clear c16
       replace H := oc H
       obtain ⟨t711, A45, H⟩ := H
       simp only [Option.some.injEq, Prod.mk.injEq] at H
       obtain ⟨rfl, rfl⟩ := H
       obtain ⟨Ao46, co46, eo46⟩ := Kd.R_slice HO_6.out
       subst eo46
       go_wp2_with (first | ((with_reducible refine gc 42 rfl ?_); refine gL (some 73) Try.func42 #[.slice Ao46 x6_1.length co46] ?_; (with_reducible refine (cutplaneref01_Trim.calls k1 (fun k_ => some k_ = (.slice Ao46 x6_1.length co46 : Value).ownBlock) (.slice Ao46 x6_1.length co46) x6_1 t711 w _ ?side1 ?side2 A45.out).mono ?_); (case side1 => exact bU HB); (case side2 => exact Kd.R_tight rfl HO_6.out); rintro e w47 ⟨v712, rfl, ho0, hb, hkp⟩; refine ⟨_, rfl, ?_⟩; have HO713 := Aside0.mk (Kd.R_mono (ok' := fun k_ => some k_ ≠ (u8 : Value).ownBlock) ho0 (fun k_ hk_ => Or.elim hk_ (fun hs_ => fun e_ => (((HO_8.out).1 k_ e_.symm)) hs_) (fun hn_ => (Kd.fresh' (Kd.R_lt (rU HO_8)) k_ hn_)))); replace HO_8 := Aside0.mk (Kd.R_mono (ok' := fun k_ => some k_ ≠ (v712 : Value).ownBlock) (Kd.R_keptB (HO_8.out) hkp (fun k_ hk_ hs_ => (hk_) hs_)) (fun k_ hk_ => fun e_ => Or.elim (ho0.1 k_ e_.symm) (fun hs_ => hk_.2.1 hs_) (fun hn_ => Nat.not_le.2 hk_.2.2 hn_))); replace HB := Aside0.mk (hb); clear HO_6; clear hb hkp ho0))
       go_ret2
       exact ⟨_, _, by first | rfl | (simp [errW_none, errW_some] <;> rfl) | (simp only [← hji11]; first | rfl | (simp [errW_none, errW_some] <;> rfl)) | (simp [*, errW_none, errW_some] <;> rfl), rU HO713, rU HO_8, bU HB⟩
   ·rw [if_neg c8] at H
    exact absurd H (by simp)
  ·rw [if_neg c7] at H
   exact absurd H (by simp)

end Go.Proofs.Ytldcelgbinenbaa.Px

namespace Go.Proofs.Ytldcelgbinenbaa.Px
open Go.RowKit Go.Proofs.YtldcelgbinenbaaW.PrintWords Go.Proofs.YtldcelgbinenbaaW.PrintLast Go.Proofs.YtldcelgbinenbaaW.PrintMore
attribute [local go_sem] max2_int min2_int max_two min_two max_three min_three max_four min_four   -- for this text's walks alone
set_option linter.unusedVariables false
set_option linter.unusedSimpArgs false

/-! ### cutplanelaw01_NatProducts: function 8 -/
mutual
def cutplanelaw01_NatProducts.j0 : Nat → List Int → List Int → Bool → Option (Bool)
 | 0, _, _, _ => none
 | k + 1, x0, x1, x32 => if x32 = true then ((cutplanelaw01_known.f k).bind fun t732 => (some t732)) else ((cutplanelaw01_lent.f x0).bind fun t733 => ((cutplanelaw01_lent.f x1).bind fun t736 => ((nat_Mul.f k t733 t736).bind fun bt739 => ((cutplaneref01_May.f x0).bind fun t743 => (if t743 = true then ((cutplaneref01_May.f x1).bind fun t744 => (cutplanelaw01_NatProducts.j1 k x0 x1 t733 t736 bt739.1 bt739.2 (!t744))) else (cutplanelaw01_NatProducts.j1 k x0 x1 t733 t736 bt739.1 bt739.2 true))))))
def cutplanelaw01_NatProducts.j1 : Nat → List Int → List Int → List Int → List Int → List Int → Int → Bool → Option (Bool)
 | 0, _, _, _, _, _, _, _ => none
 | k + 1, x0, x1, x5, x6, x7, x8, x51 => if x51 = true then ((nat_QuoRem.f k x5 x6).bind fun bt745 => (if (x7.length : Int) = 0 then (if x8 = 2 then (if (bt745.1.length : Int) = 0 then (if (bt745.2.1.length : Int) = 0 then (if bt745.2.2 = 2 then ((cutplanelaw01_known.f k).bind fun t752 => (some t752)) else (some false)) else (some false)) else (some false)) else (some false)) else (some false))) else ((cutplaneref01_Mul.f k x0 x1).bind fun t753 => (if (t753.length : Int) > 4096 then (if (x7.length : Int) = 0 then (if x8 = 3 then (cutplanelaw01_NatProducts.j2 k x0 x1 x5 x6 x7) else (some false)) else (some false)) else ((cutplaneref01_Same.f k x7 t753).bind fun t756 => (if t756 = true then (if x8 = 0 then (cutplanelaw01_NatProducts.j2 k x0 x1 x5 x6 x7) else (some false)) else (some false)))))
def cutplanelaw01_NatProducts.j2 : Nat → List Int → List Int → List Int → List Int → List Int → Option (Bool)
 | 0, _, _, _, _, _ => none
 | k + 1, x0, x1, x5, x6, x7 => if (x1.length : Int) > 1 then ((cutplanelaw01_long.f x0 220).bind fun t757 => (if t757 = true then (cutplanelaw01_NatProducts.j3 k x0 x1 x5 x6 x7 true) else ((cutplanelaw01_long.f x1 220).bind fun t758 => (cutplanelaw01_NatProducts.j3 k x0 x1 x5 x6 x7 t758)))) else (cutplanelaw01_NatProducts.j3 k x0 x1 x5 x6 x7 false)
def cutplanelaw01_NatProducts.j3 : Nat → List Int → List Int → List Int → List Int → List Int → Bool → Option (Bool)
 | 0, _, _, _, _, _, _ => none
 | k + 1, x0, x1, x5, x6, x7, x114 => if x114 = true then ((cutplanelaw01_known.f k).bind fun t759 => (some t759)) else ((nat_QuoRem.f k x5 x6).bind fun bt760 => (if (x1.length : Int) = 0 then (if (bt760.1.length : Int) = 0 then (if (bt760.2.1.length : Int) = 0 then (if bt760.2.2 = 11 then ((cutplanelaw01_known.f k).bind fun t767 => (some t767)) else (some false)) else (some false)) else (some false)) else ((cutplaneref01_QuoRem.f k x0 x1).bind fun bt768 => ((cutplaneref01_Same.f k bt760.1 bt768.1).bind fun t774 => (if t774 = true then ((cutplaneref01_Same.f k bt760.2.1 bt768.2).bind fun t775 => (if t775 = true then (cutplanelaw01_NatProducts.j4 k x0 x1 x5 x6 x7 bt760.1 bt760.2.1 (bt760.2.2 == 0)) else (cutplanelaw01_NatProducts.j4 k x0 x1 x5 x6 x7 bt760.1 bt760.2.1 false))) else (cutplanelaw01_NatProducts.j4 k x0 x1 x5 x6 x7 bt760.1 bt760.2.1 false))))))
def cutplanelaw01_NatProducts.j4 : Nat → List Int → List Int → List Int → List Int → List Int → List Int → List Int → Bool → Option (Bool)
 | 0, _, _, _, _, _, _, _, _ => none
 | k + 1, x0, x1, x5, x6, x7, x13, x14, x18 => (cutplanelaw01_marked.f k x13).bind fun t776 => ((cutplanelaw01_marked.f k x14).bind fun t777 => ((cutplanelaw01_marked.f k x7).bind fun t778 => (if x18 = true then ((cutplaneref01_Same.f k x5 x0).bind fun t779 => (if t779 = true then ((cutplaneref01_Same.f k x6 x1).bind fun t780 => (if t780 = true then ((cutplanelaw01_known.f k).bind fun t781 => (some t781)) else (some false))) else (some false))) else (some false))))
end
def cutplanelaw01_NatProducts.f (k : Nat) (l0 : List Int) (l1 : List Int) : Option (Bool) := (cutplanelaw01_long.f l0 4100).bind fun t730 => (if t730 = true then (cutplanelaw01_NatProducts.j0 k l0 l1 true) else ((cutplanelaw01_long.f l1 4100).bind fun t731 => (if t731 = true then (cutplanelaw01_NatProducts.j0 k l0 l1 true) else (cutplanelaw01_NatProducts.j0 k l0 l1 (decide ((wrap64 ((l0.length : Int) * (l1.length : Int))) > 1048576))))))
theorem cutplanelaw01_NatProducts.mono_l : ∀ k, (∀ y0 y1 y2, LeO (cutplanelaw01_NatProducts.j0 k y0 y1 y2) (cutplanelaw01_NatProducts.j0 (k + 1) y0 y1 y2)) ∧ (∀ y0 y1 y2 y3 y4 y5 y6, LeO (cutplanelaw01_NatProducts.j1 k y0 y1 y2 y3 y4 y5 y6) (cutplanelaw01_NatProducts.j1 (k + 1) y0 y1 y2 y3 y4 y5 y6)) ∧ (∀ y0 y1 y2 y3 y4, LeO (cutplanelaw01_NatProducts.j2 k y0 y1 y2 y3 y4) (cutplanelaw01_NatProducts.j2 (k + 1) y0 y1 y2 y3 y4)) ∧ (∀ y0 y1 y2 y3 y4 y5, LeO (cutplanelaw01_NatProducts.j3 k y0 y1 y2 y3 y4 y5) (cutplanelaw01_NatProducts.j3 (k + 1) y0 y1 y2 y3 y4 y5)) ∧ (∀ y0 y1 y2 y3 y4 y5 y6 y7, LeO (cutplanelaw01_NatProducts.j4 k y0 y1 y2 y3 y4 y5 y6 y7) (cutplanelaw01_NatProducts.j4 (k + 1) y0 y1 y2 y3 y4 y5 y6 y7))
 | 0 => ⟨fun _ _ _ r h => by simp [cutplanelaw01_NatProducts.j0] at h, fun _ _ _ _ _ _ _ r h => by simp [cutplanelaw01_NatProducts.j1] at h, fun _ _ _ _ _ r h => by simp [cutplanelaw01_NatProducts.j2] at h, fun _ _ _ _ _ _ r h => by simp [cutplanelaw01_NatProducts.j3] at h, fun _ _ _ _ _ _ _ _ r h => by simp [cutplanelaw01_NatProducts.j4] at h⟩
 | k + 1 => by
  obtain ⟨ih0, ih1, ih2, ih3, ih4⟩ := cutplanelaw01_NatProducts.mono_l k
  refine ⟨?_, ?_, ?_, ?_, ?_⟩
  ·intro y0 y1 y2
   unfold cutplanelaw01_NatProducts.j0
   repeat' (with_reducible first | exact ih0 _ _ _ | exact ih1 _ _ _ _ _ _ _ | exact ih2 _ _ _ _ _ | exact ih3 _ _ _ _ _ _ | exact ih4 _ _ _ _ _ _ _ _ | exact cutplanelaw01_known.mono _ | exact cutplanelaw01_marked.mono _ _ | exact cutplaneref01_Mul.mono _ _ _ | exact cutplaneref01_QuoRem.mono _ _ _ | exact cutplaneref01_Same.mono _ _ _ | exact nat_Mul.mono _ _ _ | exact nat_QuoRem.mono _ _ _ | exact LeO.refl _ | exact LeO.none _ | refine LeO.ite ?_ ?_ | refine LeO.bind ?_ (fun _ => ?_))
  ·intro y0 y1 y2 y3 y4 y5 y6
   unfold cutplanelaw01_NatProducts.j1
   repeat' (with_reducible first | exact ih0 _ _ _ | exact ih1 _ _ _ _ _ _ _ | exact ih2 _ _ _ _ _ | exact ih3 _ _ _ _ _ _ | exact ih4 _ _ _ _ _ _ _ _ | exact cutplanelaw01_known.mono _ | exact cutplanelaw01_marked.mono _ _ | exact cutplaneref01_Mul.mono _ _ _ | exact cutplaneref01_QuoRem.mono _ _ _ | exact cutplaneref01_Same.mono _ _ _ | exact nat_Mul.mono _ _ _ | exact nat_QuoRem.mono _ _ _ | exact LeO.refl _ | exact LeO.none _ | refine LeO.ite ?_ ?_ | refine LeO.bind ?_ (fun _ => ?_))
  ·intro y0 y1 y2 y3 y4
   unfold cutplanelaw01_NatProducts.j2
   repeat' (with_reducible first | exact ih0 _ _ _ | exact ih1 _ _ _ _ _ _ _ | exact ih2 _ _ _ _ _ | exact ih3 _ _ _ _ _ _ | exact ih4 _ _ _ _ _ _ _ _ | exact cutplanelaw01_known.mono _ | exact cutplanelaw01_marked.mono _ _ | exact cutplaneref01_Mul.mono _ _ _ | exact cutplaneref01_QuoRem.mono _ _ _ | exact cutplaneref01_Same.mono _ _ _ | exact nat_Mul.mono _ _ _ | exact nat_QuoRem.mono _ _ _ | exact LeO.refl _ | exact LeO.none _ | refine LeO.ite ?_ ?_ | refine LeO.bind ?_ (fun _ => ?_))
  ·intro y0 y1 y2 y3 y4 y5
   unfold cutplanelaw01_NatProducts.j3
   repeat' (with_reducible first | exact ih0 _ _ _ | exact ih1 _ _ _ _ _ _ _ | exact ih2 _ _ _ _ _ | exact ih3 _ _ _ _ _ _ | exact ih4 _ _ _ _ _ _ _ _ | exact cutplanelaw01_known.mono _ | exact cutplanelaw01_marked.mono _ _ | exact cutplaneref01_Mul.mono _ _ _ | exact cutplaneref01_QuoRem.mono _ _ _ | exact cutplaneref01_Same.mono _ _ _ | exact nat_Mul.mono _ _ _ | exact nat_QuoRem.mono _ _ _ | exact LeO.refl _ | exact LeO.none _ | refine LeO.ite ?_ ?_ | refine LeO.bind ?_ (fun _ => ?_))
  ·intro y0 y1 y2 y3 y4 y5 y6 y7
   unfold cutplanelaw01_NatProducts.j4
   repeat' (with_reducible first | exact ih0 _ _ _ | exact ih1 _ _ _ _ _ _ _ | exact ih2 _ _ _ _ _ | exact ih3 _ _ _ _ _ _ | exact ih4 _ _ _ _ _ _ _ _ | exact cutplanelaw01_known.mono _ | exact cutplanelaw01_marked.mono _ _ | exact cutplaneref01_Mul.mono _ _ _ | exact cutplaneref01_QuoRem.mono _ _ _ | exact cutplaneref01_Same.mono _ _ _ | exact nat_Mul.mono _ _ _ | exact nat_QuoRem.mono _ _ _ | exact LeO.refl _ | exact LeO.none _ | refine LeO.ite ?_ ?_ | refine LeO.bind ?_ (fun _ => ?_))
theorem cutplanelaw01_NatProducts.mono : ∀ a0 a1 k, LeO (cutplanelaw01_NatProducts.f k a0 a1) (cutplanelaw01_NatProducts.f (k + 1) a0 a1) := by
 intro a0 a1 k
 obtain ⟨ih0, ih1, ih2, ih3, ih4⟩ := cutplanelaw01_NatProducts.mono_l k
 unfold cutplanelaw01_NatProducts.f
 repeat' (with_reducible first | exact ih0 _ _ _ | exact ih1 _ _ _ _ _ _ _ | exact ih2 _ _ _ _ _ | exact ih3 _ _ _ _ _ _ | exact ih4 _ _ _ _ _ _ _ _ | exact cutplanelaw01_known.mono _ | exact cutplanelaw01_marked.mono _ _ | exact cutplaneref01_Mul.mono _ _ _ | exact cutplaneref01_QuoRem.mono _ _ _ | exact cutplaneref01_Same.mono _ _ _ | exact nat_Mul.mono _ _ _ | exact nat_QuoRem.mono _ _ _ | exact LeO.refl _ | exact LeO.none _ | refine LeO.ite ?_ ?_ | refine LeO.bind ?_ (fun _ => ?_))
set_option maxHeartbeats 8000000 in
set_option maxRecDepth 100000 in
theorem cutplanelaw01_NatProducts.calls (k : Nat) (A0 : Option Addr) (c0 : Nat) (l0 : List Int) (A1 : Option Addr) (c1 : Nat) (l1 : List Int) (r : Bool) (w : World) (hr0 : Kd.C (Kd.int .u32) w A0 l0.length l0) (hc0 : l0.length ≤ c0) (hr1 : Kd.C (Kd.int .u32) w A1 l1.length l1) (hc1 : l1.length ≤ c1) (h : cutplanelaw01_NatProducts.f k l0 l1 = some r) (hr_ : r = true) :
  Calls Try.prog 8 #[.slice A0 l0.length c0, .slice A1 l1.length c1] w fun e w' => e = .returned (.bool r) ∧ Below w.heap.size w w' := by
 have HR0 := Aside0.mk hr0
 have HC0 := Aside0.mk hc0
 clear hr0 hc0
 have HR1 := Aside0.mk hr1
 have HC1 := Aside0.mk hc1
 clear hr1 hc1
 have HB := Aside0.mk (Below.refl w.heap.size w)
 have H := h
 unfold cutplanelaw01_NatProducts.f at H
 clear h
 have HC3 := Aside0.mk H
 clear H
 go_enter Try.func8, Try.ntmps8
 go_upto_region 1 with (fail)
 go_cut [32] (fun v32 wc => ∃ (kq : Nat) (x32_2 : Bool), v32 = .bool x32_2 ∧ Aside0 (cutplanelaw01_NatProducts.j0 kq l0 l1 x32_2 = some r) ∧ Aside0 (kq ≤ k) ∧ Aside0 (Below w.heap.size w wc))
 case first =>
  have H := HC3.out
  clear HC3
  replace H := oc H
  obtain ⟨t730, A4, H⟩ := H
  by_cases c5 : t730 = true
  ·subst c5
   rw [if_pos rfl] at H
   as_aux_lemma =>
    have H' := Aside0.mk H
    clear H
    go_wp2_with (first | ((with_reducible refine gc 12 rfl ?_); refine gL (some 20) Try.func12 #[.slice A0 l0.length c0, .int .i64 4100] ?_; (with_reducible refine (cutplanelaw01_long.calls _ _ l0 4100 true _ ?side1 ?side2 A4.out).mono ?_); (case side1 => exact cB HR0 HB); (case side2 => exact HC0.out); rintro e w' ⟨rfl, ⟨nd, rfl⟩⟩; refine ⟨_, rfl, ?_⟩))
    go_meet
    case rel => exact ⟨_, (true), es, H', ⟨by first | omega | exact Nat.le_refl _⟩, ⟨bU HB⟩⟩
  ·replace c5 := Bool.eq_false_iff.mpr c5
   subst c5
   rw [if_neg (show ¬ (false = true) by decide)] at H
   replace H := oc H
   obtain ⟨t731, A6, H⟩ := H
   by_cases c7 : t731 = true
   ·subst c7
    rw [if_pos rfl] at H
    as_aux_lemma =>
     have H' := Aside0.mk H
     clear H
     go_wp2_with (first | ((with_reducible refine gc 12 rfl ?_); refine gL (some 20) Try.func12 #[.slice A0 l0.length c0, .int .i64 4100] ?_; (with_reducible refine (cutplanelaw01_long.calls _ _ l0 4100 false _ ?side1 ?side2 A4.out).mono ?_); (case side1 => exact cB HR0 HB); (case side2 => exact HC0.out); rintro e w' ⟨rfl, ⟨nd, rfl⟩⟩; refine ⟨_, rfl, ?_⟩) | (go_at_call 12; (with_reducible refine (cutplanelaw01_long.calls _ _ l1 4100 true _ ?side1 ?side2 A6.out).mono ?_); (case side1 => exact cB HR1 HB); (case side2 => exact HC1.out); rintro e w' ⟨rfl, ⟨nd, rfl⟩⟩))
     go_meet
     case rel => exact ⟨_, (true), es, H', ⟨by first | omega | exact Nat.le_refl _⟩, ⟨bU HB⟩⟩
   ·replace c7 := Bool.eq_false_iff.mpr c7
    subst c7
    rw [if_neg (show ¬ (false = true) by decide)] at H
    as_aux_lemma =>
     have H' := Aside0.mk H
     clear H
     go_wp2_with (first | ((with_reducible refine gc 12 rfl ?_); refine gL (some 20) Try.func12 #[.slice A0 l0.length c0, .int .i64 4100] ?_; (with_reducible refine (cutplanelaw01_long.calls _ _ l0 4100 false _ ?side1 ?side2 A4.out).mono ?_); (case side1 => exact cB HR0 HB); (case side2 => exact HC0.out); rintro e w' ⟨rfl, ⟨nd, rfl⟩⟩; refine ⟨_, rfl, ?_⟩) | (go_at_call 12; (with_reducible refine (cutplanelaw01_long.calls _ _ l1 4100 false _ ?side1 ?side2 A6.out).mono ?_); (case side1 => exact cB HR1 HB); (case side2 => exact HC1.out); rintro e w' ⟨rfl, ⟨nd, rfl⟩⟩))
     go_meet
     case rel => exact ⟨_, (decide ((wrap64 ((l0.length : Int) * (l1.length : Int))) > 1048576)), es, H', ⟨by first | omega | exact Nat.le_refl _⟩, ⟨bU HB⟩⟩
 case rest =>
  clear HC3
  try clear c1; try clear p2; try clear c5; try clear p6; try clear c7
  obtain ⟨kq, x32_2, rfl, HA, HJ2, HB⟩ := hcut
  cases kq with
  | zero => exact absurd HA.out (by simp [cutplanelaw01_NatProducts.j0])
  | succ kj2 =>
   have H := HA.out
   clear HA
   simp only [cutplanelaw01_NatProducts.j0] at H
   by_cases c8 : x32_2 = true
   ·subst c8
    rw [if_pos rfl] at H
    replace H := oc H
    obtain ⟨t732, A9, H⟩ := H
    as_aux_lemma =>
     obtain rfl := Option.some.inj H
     go_wp2_with (first | ((with_reducible refine gc 13 rfl ?_); refine gL (some 33) Try.func13 #[] ?_; (with_reducible refine (cutplanelaw01_known.calls kj2  t732 _ A9.out).mono ?_); rintro e w10 ⟨rfl, hb⟩; refine ⟨_, rfl, ?_⟩; replace HB := bS HB hb; clear hb))
     go_ret
     exact ⟨by first | rfl | (simp [errW_none, errW_some] <;> rfl) | (simp [*, errW_none, errW_some] <;> rfl), bU HB⟩
   ·replace c8 := Bool.eq_false_iff.mpr c8
    subst c8
    rw [if_neg (show ¬ (false = true) by decide)] at H
    replace H := oc H
    obtain ⟨t733, A11, H⟩ := H
    replace H := oc H
    obtain ⟨t736, A12, H⟩ := H
    replace H := oc H
    obtain ⟨⟨t739, t742⟩, A13, H⟩ := H
    dsimp only at H
    have HC14 := Aside0.mk H
    clear H
    go_upto_region 5 with (first | ((with_reducible refine gc 14 rfl ?_); refine gL (some 35) Try.func14 #[.slice A0 l0.length c0] ?_; (with_reducible refine (cutplanelaw01_lent.calls _ _ l0 t733 _ ?side1 ?side2 A11.out).mono ?_); (case side1 => exact cB HR0 HB); (case side2 => exact HC0.out); rintro e w15 ⟨v734, rfl, ho0, hb⟩; refine ⟨_, rfl, ?_⟩; have HO735 := rL ho0 HB; replace HB := bS HB hb; clear hb ho0) | ((with_reducible refine gc 14 rfl ?_); refine gL (some 37) Try.func14 #[.slice A1 l1.length c1] ?_; (with_reducible refine (cutplanelaw01_lent.calls _ _ l1 t736 _ ?side1 ?side2 A12.out).mono ?_); (case side1 => exact cB HR1 HB); (case side2 => exact HC1.out); rintro e w16 ⟨v737, rfl, ho0, hb⟩; refine ⟨_, rfl, ?_⟩; have HO738 := rL (rX ho0 HO735) HB; replace HO735 := rE HO735 ho0 hb; replace HB := bS HB hb; clear hb ho0; obtain ⟨Ao17, co17, rfl⟩ := Kd.R_slice HO735.out; obtain ⟨Ao18, co18, rfl⟩ := Kd.R_slice HO738.out) | ((with_reducible refine gc 28 rfl ?_); refine gL (some 41) Try.func28 #[.slice Ao17 t733.length co17, .slice Ao18 t736.length co18] ?_; (with_reducible refine (nat_Mul.calls kj2 (fun k_ => some k_ = (.slice Ao17 t733.length co17 : Value).ownBlock) _ _ t733 (fun k_ => some k_ = (.slice Ao18 t736.length co18 : Value).ownBlock) _ _ t736 t739 t742 _ ?side1 ?side2 A13.out).mono ?_); (case side1 => exact Kd.R_V (Kd.R_tight rfl (HO735.out))); (case side2 => exact Kd.R_V (Kd.R_tight rfl (HO738.out))); rintro e w19 ⟨v740, rfl, ho0, hb⟩; refine ⟨_, rfl, ?_⟩; have HO741 := rL (rX (rX (rT ho0) HO735) HO738) HB; replace HO735 := rE HO735 ho0 hb; replace HO738 := rE HO738 ho0 hb; replace HB := bS HB hb; clear hb ho0))
    (try simp only [Act.put, List.setIfInBounds_toArray, List.set_cons_zero, List.set_cons_succ])
    go_cut [51] (fun v51 wc => ∃ (kq : Nat) (x51_13 : Bool), v51 = .bool x51_13 ∧ Aside0 (cutplanelaw01_NatProducts.j1 kq l0 l1 t733 t736 t739 t742 x51_13 = some r) ∧ Aside0 (kq ≤ kj2) ∧ Aside0 (Kd.R (Kd.int .u32) 42 wc w.heap.size (fun k_ => some k_ ≠ ((.slice Ao18 t736.length co18) : Value).ownBlock ∧ some k_ ≠ (v740 : Value).ownBlock) (.slice Ao17 t733.length co17) t733) ∧ Aside0 (Kd.R (Kd.int .u32) 42 wc w.heap.size (fun k_ => some k_ ≠ ((.slice Ao17 t733.length co17) : Value).ownBlock ∧ some k_ ≠ (v740 : Value).ownBlock) (.slice Ao18 t736.length co18) t736) ∧ Aside0 (Kd.R (Kd.int .u32) 42 wc w.heap.size (fun k_ => some k_ ≠ ((.slice Ao17 t733.length co17) : Value).ownBlock ∧ some k_ ≠ ((.slice Ao18 t736.length co18) : Value).ownBlock) v740 t739) ∧ Aside0 (Below w.heap.size w wc))
    case first =>
     have H := HC14.out
     clear HC14
     replace H := oc H
     obtain ⟨t743, A20, H⟩ := H
     by_cases c21 : t743 = true
     ·subst c21
      rw [if_pos rfl] at H
      replace H := oc H
      obtain ⟨t744, A22, H⟩ := H
      as_aux_lemma =>
       have H' := Aside0.mk H
       clear H
       go_wp2_with (first | ((with_reducible refine gc 16 rfl ?_); refine gL (some 45) Try.func16 #[.slice A0 l0.length c0] ?_; (with_reducible refine (cutplaneref01_May.calls _ _ l0 true _ ?side1 ?side2 A20.out).mono ?_); (case side1 => exact cB HR0 HB); (case side2 => exact HC0.out); rintro e w' ⟨rfl, ⟨nd, rfl⟩⟩; refine ⟨_, rfl, ?_⟩) | (go_at_call 16; (with_reducible refine (cutplaneref01_May.calls _ _ l1 t744 _ ?side1 ?side2 A22.out).mono ?_); (case side1 => exact cB HR1 HB); (case side2 => exact HC1.out); rintro e w' ⟨rfl, ⟨nd, rfl⟩⟩))
       go_meet
       case rel => exact ⟨_, (!t744), es, H', ⟨by have := HJ2.out; first | omega | exact Nat.le_refl _⟩, ⟨by (with_reducible repeat (first | apply Kd.R_alloc | apply Kd.R_drewN | apply Kd.R_drew)); exact Kd.R_mono HO735.out (fun _ hk => ⟨hk.1.2, hk.2⟩)⟩, ⟨by (with_reducible repeat (first | apply Kd.R_alloc | apply Kd.R_drewN | apply Kd.R_drew)); exact Kd.R_mono HO738.out (fun _ hk => ⟨hk.1.2, hk.2⟩)⟩, ⟨by (with_reducible repeat (first | apply Kd.R_alloc | apply Kd.R_drewN | apply Kd.R_drew)); exact Kd.R_mono HO741.out (fun _ hk => ⟨hk.1.2, hk.2⟩)⟩, ⟨bU HB⟩⟩
     ·replace c21 := Bool.eq_false_iff.mpr c21
      subst c21
      rw [if_neg (show ¬ (false = true) by decide)] at H
      as_aux_lemma =>
       have H' := Aside0.mk H
       clear H
       go_wp2_with (first | ((with_reducible refine gc 16 rfl ?_); refine gL (some 45) Try.func16 #[.slice A0 l0.length c0] ?_; (with_reducible refine (cutplaneref01_May.calls _ _ l0 false _ ?side1 ?side2 A20.out).mono ?_); (case side1 => exact cB HR0 HB); (case side2 => exact HC0.out); rintro e w' ⟨rfl, ⟨nd, rfl⟩⟩; refine ⟨_, rfl, ?_⟩))
       go_meet
       case rel => exact ⟨_, (true), es, H', ⟨by have := HJ2.out; first | omega | exact Nat.le_refl _⟩, ⟨by (with_reducible repeat (first | apply Kd.R_alloc | apply Kd.R_drewN | apply Kd.R_drew)); exact Kd.R_mono HO735.out (fun _ hk => ⟨hk.1.2, hk.2⟩)⟩, ⟨by (with_reducible repeat (first | apply Kd.R_alloc | apply Kd.R_drewN | apply Kd.R_drew)); exact Kd.R_mono HO738.out (fun _ hk => ⟨hk.1.2, hk.2⟩)⟩, ⟨by (with_reducible repeat (first | apply Kd.R_alloc | apply Kd.R_drewN | apply Kd.R_drew)); exact Kd.R_mono HO741.out (fun _ hk => ⟨hk.1.2, hk.2⟩)⟩, ⟨bU HB⟩⟩
    case rest =>
     clear HC14
     try clear c1; try clear c2; try clear p2; try clear c5; try clear p6; try clear c7; try clear c8; try clear c12; try clear c13; try clear c14; try clear c16; try clear c21; try clear p2; try clear p6
     obtain ⟨kq, x51_13, rfl, HA, HJ13, HO_5, HO_6, HO_7, HB⟩ := hcut
     cases kq with
     | zero => exact absurd HA.out (by simp [cutplanelaw01_NatProducts.j1])
     | succ kj13 =>
      have H := HA.out
      clear HA
      simp only [cutplanelaw01_NatProducts.j1] at H
      by_cases c23 : x51_13 = true
      ·subst c23
       rw [if_pos rfl] at H
       replace H := oc H
       obtain ⟨⟨t745, t748, t751⟩, A24, H⟩ := H
       dsimp only at H
       by_cases c25 : (t739.length : Int) = 0
       ·rw [if_pos c25] at H
        have c25b0 : ((t739.length : Int) == 0) = true := beq_iff_eq.mpr c25
        have c25b1 : ((t739.length : Int) != 0) = false := bne_eq_false_iff_eq.mpr c25
        clear c25
        by_cases c26 : t742 = 2
        ·rw [if_pos c26] at H
         have c26b0 : (t742 == 2) = true := beq_iff_eq.mpr c26
         have c26b1 : (t742 != 2) = false := bne_eq_false_iff_eq.mpr c26
         clear c26
         by_cases c27 : (t745.length : Int) = 0
         ·rw [if_pos c27] at H
          have c27b0 : ((t745.length : Int) == 0) = true := beq_iff_eq.mpr c27
          have c27b1 : ((t745.length : Int) != 0) = false := bne_eq_false_iff_eq.mpr c27
          clear c27
          by_cases c28 : (t748.length : Int) = 0
          ·rw [if_pos c28] at H
           have c28b0 : ((t748.length : Int) == 0) = true := beq_iff_eq.mpr c28
           have c28b1 : ((t748.length : Int) != 0) = false := bne_eq_false_iff_eq.mpr c28
           clear c28
           by_cases c29 : t751 = 2
           ·rw [if_pos c29] at H
            have c29b0 : (t751 == 2) = true := beq_iff_eq.mpr c29
            have c29b1 : (t751 != 2) = false := bne_eq_false_iff_eq.mpr c29
            clear c29
            replace H := oc H
            obtain ⟨t752, A30, H⟩ := H
            as_aux_lemma =>
             obtain rfl := Option.some.inj H
             go_wp2_with (first | ((with_reducible refine gc 36 rfl ?_); refine gL (some 55) Try.func36 #[.slice Ao17 t733.length co17, .slice Ao18 t736.length co18] ?_; (with_reducible refine (nat_QuoRem.calls kj13 (fun k_ => some k_ = (.slice Ao17 t733.length co17 : Value).ownBlock) _ _ t733 (fun k_ => some k_ = (.slice Ao18 t736.length co18 : Value).ownBlock) _ _ t736 t745 t748 t751 _ ?side1 ?side2 A24.out).mono ?_); (case side1 => exact Kd.R_V (Kd.R_tight rfl (HO_5.out))); (case side2 => exact Kd.R_V (Kd.R_tight rfl (HO_6.out))); rintro e w31 ⟨v746, v749, rfl, ho0, ho1, hb⟩; refine ⟨_, rfl, ?_⟩; have HO747 := rL (rX (rX (rX (Kd.R_mono (ok' := fun k_ => some k_ ≠ (v749 : Value).ownBlock) ho0 (fun _ hk_ => hk_.2)) HO_5) HO_6) HO_7) HB; have HO750 := rL (rX (rX (rX (Kd.R_mono (ok' := fun k_ => some k_ ≠ (v746 : Value).ownBlock) ho1 (fun _ hk_ => hk_.2)) HO_5) HO_6) HO_7) HB; replace HO_5 := Aside0.mk (Kd.R_mono (Kd.R_told (Kd.R_told (Kd.R_old (rU HO_5) hb) (Kd.R_base ho0)) (Kd.R_base ho1)) (fun _ h_ => h_.1)); replace HO_6 := Aside0.mk (Kd.R_mono (Kd.R_told (Kd.R_told (Kd.R_old (rU HO_6) hb) (Kd.R_base ho0)) (Kd.R_base ho1)) (fun _ h_ => h_.1)); replace HO_7 := Aside0.mk (Kd.R_mono (Kd.R_told (Kd.R_told (Kd.R_old (rU HO_7) hb) (Kd.R_base ho0)) (Kd.R_base ho1)) (fun _ h_ => h_.1)); replace HB := bS HB hb; clear hb ho0 ho1; obtain ⟨Ao32, co32, rfl⟩ := Kd.R_slice HO_7.out; obtain ⟨Ao33, co33, rfl⟩ := Kd.R_slice HO747.out; obtain ⟨Ao34, co34, rfl⟩ := Kd.R_slice HO750.out) | (go_at_call 13; (with_reducible refine (cutplanelaw01_known.calls kj13  t752 _ A30.out).mono ?_); rintro e w35 ⟨rfl, hb⟩; replace HO_5 := rW HO_5 hb; replace HO_6 := rW HO_6 hb; replace HO_7 := rW HO_7 hb; replace HO747 := rW HO747 hb; replace HO750 := rW HO750 hb; replace HB := bS HB hb; clear hb))
             go_ret
             exact ⟨by first | rfl | (simp [errW_none, errW_some] <;> rfl) | (simp [*, errW_none, errW_some] <;> rfl), bU HB⟩
           ·rw [if_neg c29] at H
            have c29b0 : (t751 == 2) = false := beq_eq_false_iff_ne.mpr c29
            have c29b1 : (t751 != 2) = true := bne_iff_ne.mpr c29
            exact absurd (Option.some.inj (H.trans (congrArg some hr_))) (by decide)
          ·rw [if_neg c28] at H
           have c28b0 : ((t748.length : Int) == 0) = false := beq_eq_false_iff_ne.mpr c28
           have c28b1 : ((t748.length : Int) != 0) = true := bne_iff_ne.mpr c28
           have c28b2 : ¬ (t748 = []) := fun h_ => c28 (by rw [h_]; rfl)
           exact absurd (Option.some.inj (H.trans (congrArg some hr_))) (by decide)
         ·rw [if_neg c27] at H
          have c27b0 : ((t745.length : Int) == 0) = false := beq_eq_false_iff_ne.mpr c27
          have c27b1 : ((t745.length : Int) != 0) = true := bne_iff_ne.mpr c27
          have c27b2 : ¬ (t745 = []) := fun h_ => c27 (by rw [h_]; rfl)
          exact absurd (Option.some.inj (H.trans (congrArg some hr_))) (by decide)
        ·rw [if_neg c26] at H
         have c26b0 : (t742 == 2) = false := beq_eq_false_iff_ne.mpr c26
         have c26b1 : (t742 != 2) = true := bne_iff_ne.mpr c26
         exact absurd (Option.some.inj (H.trans (congrArg some hr_))) (by decide)
       ·rw [if_neg c25] at H
        have c25b0 : ((t739.length : Int) == 0) = false := beq_eq_false_iff_ne.mpr c25
        have c25b1 : ((t739.length : Int) != 0) = true := bne_iff_ne.mpr c25
        have c25b2 : ¬ (t739 = []) := fun h_ => c25 (by rw [h_]; rfl)
        exact absurd (Option.some.inj (H.trans (congrArg some hr_))) (by decide)
      ·replace c23 := Bool.eq_false_iff.mpr c23
       subst c23
       rw [if_neg (show ¬ (false = true) by decide)] at H
       replace H := oc H
       obtain ⟨t753, A36, H⟩ := H
       have HC37 := Aside0.mk H
       clear H
       go_upto_if 88 with (first | ((with_reducible refine gc 37 rfl ?_); refine gL (some 85) Try.func37 #[.slice A0 l0.length c0, .slice A1 l1.length c1] ?_; (with_reducible refine (cutplaneref01_Mul.calls kj13 _ _ l0 _ _ l1 t753 _ ?side1 ?side2 ?side3 ?side4 A36.out).mono ?_); (case side1 => exact cB HR0 HB); (case side2 => exact HC0.out); (case side3 => exact cB HR1 HB); (case side4 => exact HC1.out); rintro e w38 ⟨v754, rfl, ho0, hb⟩; refine ⟨_, rfl, ?_⟩; have HO755 := rL (rX (rX (rX ho0 HO_5) HO_6) HO_7) HB; replace HO_5 := rE HO_5 ho0 hb; replace HO_6 := rE HO_6 ho0 hb; replace HO_7 := rE HO_7 ho0 hb; replace HB := bS HB hb; clear hb ho0; obtain ⟨Ao39, co39, rfl⟩ := Kd.R_slice HO755.out))
       (try simp only [Act.put, List.setIfInBounds_toArray, List.set_cons_zero, List.set_cons_succ])
       go_cut [] (fun wc => ∃ (kq : Nat), Aside0 (cutplanelaw01_NatProducts.j2 kq l0 l1 t733 t736 t739 = some r) ∧ Aside0 (kq ≤ kj13) ∧ Aside0 (Kd.R (Kd.int .u32) 42 wc w.heap.size (fun k_ => some k_ ≠ ((.slice Ao18 t736.length co18) : Value).ownBlock ∧ some k_ ≠ (v740 : Value).ownBlock) (.slice Ao17 t733.length co17) t733) ∧ Aside0 (Kd.R (Kd.int .u32) 42 wc w.heap.size (fun k_ => some k_ ≠ ((.slice Ao17 t733.length co17) : Value).ownBlock ∧ some k_ ≠ (v740 : Value).ownBlock) (.slice Ao18 t736.length co18) t736) ∧ Aside0 (Kd.R (Kd.int .u32) 42 wc w.heap.size (fun k_ => some k_ ≠ ((.slice Ao17 t733.length co17) : Value).ownBlock ∧ some k_ ≠ ((.slice Ao18 t736.length co18) : Value).ownBlock) v740 t739) ∧ Aside0 (Below w.heap.size w wc))
       case first =>
        have H := HC37.out
        clear HC37
        by_cases c40 : (t753.length : Int) > 4096
        ·rw [if_pos c40] at H
         have c40b0 : decide (4096 < (t753.length : Int)) = true := decide_eq_true c40
         have c40b1 : decide (4096 < t753.length) = true := decide_eq_true (by omega)
         clear c40
         (first | rw [c40b0] | rw [c40b1] | (simp only [i64_w, i32_w]; rw [c40b0]) | skip)
         by_cases c41 : (t739.length : Int) = 0
         ·rw [if_pos c41] at H
          have c41b0 : ((t739.length : Int) == 0) = true := beq_iff_eq.mpr c41
          have c41b1 : ((t739.length : Int) != 0) = false := bne_eq_false_iff_eq.mpr c41
          clear c41
          by_cases c42 : t742 = 3
          ·rw [if_pos c42] at H
           have c42b0 : (t742 == 3) = true := beq_iff_eq.mpr c42
           have c42b1 : (t742 != 3) = false := bne_eq_false_iff_eq.mpr c42
           clear c42
           as_aux_lemma =>
            have H' := Aside0.mk H
            clear H
            obtain ⟨Ao43, co43, eo43⟩ := Kd.R_slice HO_7.out
            subst eo43
            go_wp2
            go_meet
            case rel => exact ⟨_, H', ⟨by have := HJ2.out; have := HJ13.out; first | omega | exact Nat.le_refl _⟩, ⟨by (with_reducible repeat (first | apply Kd.R_alloc | apply Kd.R_drewN | apply Kd.R_drew)); exact Kd.R_mono HO_5.out (fun _ hk => ⟨hk.1.1, hk.1.2⟩)⟩, ⟨by (with_reducible repeat (first | apply Kd.R_alloc | apply Kd.R_drewN | apply Kd.R_drew)); exact Kd.R_mono HO_6.out (fun _ hk => ⟨hk.1.1, hk.1.2⟩)⟩, ⟨by (with_reducible repeat (first | apply Kd.R_alloc | apply Kd.R_drewN | apply Kd.R_drew)); exact Kd.R_mono HO_7.out (fun _ hk => ⟨hk.1.1, hk.1.2⟩)⟩, ⟨bU HB⟩⟩
          ·rw [if_neg c42] at H
           have c42b0 : (t742 == 3) = false := beq_eq_false_iff_ne.mpr c42
           have c42b1 : (t742 != 3) = true := bne_iff_ne.mpr c42
           exact absurd (Option.some.inj (H.trans (congrArg some hr_))) (by decide)
         ·rw [if_neg c41] at H
          have c41b0 : ((t739.length : Int) == 0) = false := beq_eq_false_iff_ne.mpr c41
          have c41b1 : ((t739.length : Int) != 0) = true := bne_iff_ne.mpr c41
          have c41b2 : ¬ (t739 = []) := fun h_ => c41 (by rw [h_]; rfl)
          exact absurd (Option.some.inj (H.trans (congrArg some hr_))) (by decide)
        ·rw [if_neg c40] at H
         have c40b0 : decide (4096 < (t753.length : Int)) = false := decide_eq_false c40
         have c40b1 : decide (4096 < t753.length) = false := decide_eq_false (by omega)
         clear c40
         (first | rw [c40b0] | rw [c40b1] | (simp only [i64_w, i32_w]; rw [c40b0]) | skip)
         replace H := oc H
         obtain ⟨t756, A44, H⟩ := H
         by_cases c45 : t756 = true
         ·subst c45
          rw [if_pos rfl] at H
          by_cases c46 : t742 = 0
          ·rw [if_pos c46] at H
           have c46b0 : (t742 == 0) = true := beq_iff_eq.mpr c46
           have c46b1 : (t742 != 0) = false := bne_eq_false_iff_eq.mpr c46
           clear c46
           as_aux_lemma =>
            have H' := Aside0.mk H
            clear H
            obtain ⟨Ao47, co47, eo47⟩ := Kd.R_slice HO_7.out
            subst eo47
            go_wp2_with (first | ((with_reducible refine gc 17 rfl ?_); refine gL (some 98) Try.func17 #[.slice Ao47 t739.length co47, .slice Ao39 t753.length co39] ?_; (with_reducible refine (cutplaneref01_Same.calls kj13 _ _ t739 _ _ t753 true _ ?side1 ?side2 ?side3 ?side4 A44.out).mono ?_); (case side1 => exact rC HO_7); (case side2 => exact rN HO_7); (case side3 => exact rC HO755); (case side4 => exact rN HO755); rintro e w' ⟨rfl, ⟨nd, rfl⟩⟩; refine ⟨_, rfl, ?_⟩))
            go_meet
            case rel => exact ⟨_, H', ⟨by have := HJ2.out; have := HJ13.out; first | omega | exact Nat.le_refl _⟩, ⟨by (with_reducible repeat (first | apply Kd.R_alloc | apply Kd.R_drewN | apply Kd.R_drew)); exact Kd.R_mono HO_5.out (fun _ hk => ⟨hk.1.1, hk.1.2⟩)⟩, ⟨by (with_reducible repeat (first | apply Kd.R_alloc | apply Kd.R_drewN | apply Kd.R_drew)); exact Kd.R_mono HO_6.out (fun _ hk => ⟨hk.1.1, hk.1.2⟩)⟩, ⟨by (with_reducible repeat (first | apply Kd.R_alloc | apply Kd.R_drewN | apply Kd.R_drew)); exact Kd.R_mono HO_7.out (fun _ hk => ⟨hk.1.1, hk.1.2⟩)⟩, ⟨bU HB⟩⟩
          ·rw [if_neg c46] at H
           have c46b0 : (t742 == 0) = false := beq_eq_false_iff_ne.mpr c46
           have c46b1 : (t742 != 0) = true := bne_iff_ne.mpr c46
           exact absurd (Option.some.inj (H.trans (congrArg some hr_))) (by decide)
         ·replace c45 := Bool.eq_false_iff.mpr c45
          subst c45
          rw [if_neg (show ¬ (false = true) by decide)] at H
          exact absurd (Option.some.inj (H.trans (congrArg some hr_))) (by decide)
       case rest =>
        clear HC37
        try clear c1; try clear c2; try clear p2; try clear c3; try clear c4; try clear c5; try clear p6; try clear c7; try clear c8; try clear c12; try clear c13; try clear c14; try clear c16; try clear c17; try clear c21; try clear c23; try clear c25; try clear c25b0; try clear c25b1; try clear c25b2; try clear c26; try clear c26b0; try clear c26b1; try clear c27; try clear c27b0; try clear c27b1; try clear c27b2; try clear c28; try clear c28b0; try clear c28b1; try clear c28b2; try clear c29; try clear c29b0; try clear c29b1; try clear c36; try clear c37; try clear c40; try clear c40b0; try clear c40b1; try clear c41; try clear c41b0; try clear c41b1; try clear c41b2; try clear c42; try clear c42b0; try clear c42b1; try clear c45; try clear c46; try clear c46b0; try clear c46b1; try clear p2; try clear p6
        obtain ⟨kq, HA, HJ36, HO_5, HO_6, HO_7, HB⟩ := hcut
        cases kq with
        | zero => exact absurd HA.out (by simp [cutplanelaw01_NatProducts.j2])
        | succ kj36 =>
         have H := HA.out
         clear HA
         simp only [cutplanelaw01_NatProducts.j2] at H
         have HC48 := Aside0.mk H
         clear H
         go_upto_region 14 with (fail)
         go_cut [114] (fun v114 wc => ∃ (kq : Nat) (x114_47 : Bool), v114 = .bool x114_47 ∧ Aside0 (cutplanelaw01_NatProducts.j3 kq l0 l1 t733 t736 t739 x114_47 = some r) ∧ Aside0 (kq ≤ kj36) ∧ Aside0 (Kd.R (Kd.int .u32) 42 wc w.heap.size (fun k_ => some k_ ≠ ((.slice Ao18 t736.length co18) : Value).ownBlock ∧ some k_ ≠ (v740 : Value).ownBlock) (.slice Ao17 t733.length co17) t733) ∧ Aside0 (Kd.R (Kd.int .u32) 42 wc w.heap.size (fun k_ => some k_ ≠ ((.slice Ao17 t733.length co17) : Value).ownBlock ∧ some k_ ≠ (v740 : Value).ownBlock) (.slice Ao18 t736.length co18) t736) ∧ Aside0 (Kd.R (Kd.int .u32) 42 wc w.heap.size (fun k_ => some k_ ≠ ((.slice Ao17 t733.length co17) : Value).ownBlock ∧ some k_ ≠ ((.slice Ao18 t736.length co18) : Value).ownBlock) v740 t739) ∧ Aside0 (Below w.heap.size w wc))
         case first =>
          have H := HC48.out
          clear HC48
          by_cases c49 : (l1.length : Int) > 1
          ·rw [if_pos c49] at H
           have c49b0 : decide (1 < (l1.length : Int)) = true := decide_eq_true c49
           have c49b1 : decide (1 < l1.length) = true := decide_eq_true (by omega)
           clear c49
           (first | rw [c49b0] | rw [c49b1] | (simp only [i64_w, i32_w]; rw [c49b0]) | skip)
           replace H := oc H
           obtain ⟨t757, A50, H⟩ := H
           by_cases c51 : t757 = true
           ·subst c51
            rw [if_pos rfl] at H
            as_aux_lemma =>
             have H' := Aside0.mk H
             clear H
             go_wp2_with (first | (go_at_call 12; (with_reducible refine (cutplanelaw01_long.calls _ _ l0 220 true _ ?side1 ?side2 A50.out).mono ?_); (case side1 => exact cB HR0 HB); (case side2 => exact HC0.out); rintro e w' ⟨rfl, ⟨nd, rfl⟩⟩))
             go_meet
             case rel => exact ⟨_, (true), es, H', ⟨by have := HJ2.out; have := HJ13.out; have := HJ36.out; first | omega | exact Nat.le_refl _⟩, ⟨rU HO_5⟩, ⟨rU HO_6⟩, ⟨rU HO_7⟩, ⟨bU HB⟩⟩
           ·replace c51 := Bool.eq_false_iff.mpr c51
            subst c51
            rw [if_neg (show ¬ (false = true) by decide)] at H
            replace H := oc H
            obtain ⟨t758, A52, H⟩ := H
            as_aux_lemma =>
             have H' := Aside0.mk H
             clear H
             go_wp2_with (first | (go_at_call 12; (with_reducible refine (cutplanelaw01_long.calls _ _ l0 220 false _ ?side1 ?side2 A50.out).mono ?_); (case side1 => exact cB HR0 HB); (case side2 => exact HC0.out); rintro e w' ⟨rfl, ⟨nd, rfl⟩⟩) | (go_at_call 12; (with_reducible refine (cutplanelaw01_long.calls _ _ l1 220 t758 _ ?side1 ?side2 A52.out).mono ?_); (case side1 => exact cB HR1 HB); (case side2 => exact HC1.out); rintro e w' ⟨rfl, ⟨nd, rfl⟩⟩))
             go_meet
             case rel => exact ⟨_, (t758), es, H', ⟨by have := HJ2.out; have := HJ13.out; have := HJ36.out; first | omega | exact Nat.le_refl _⟩, ⟨rU HO_5⟩, ⟨rU HO_6⟩, ⟨rU HO_7⟩, ⟨bU HB⟩⟩
          ·rw [if_neg c49] at H
           have c49b0 : decide (1 < (l1.length : Int)) = false := decide_eq_false c49
           have c49b1 : decide (1 < l1.length) = false := decide_eq_false (by omega)
           clear c49
           (first | rw [c49b0] | rw [c49b1] | (simp only [i64_w, i32_w]; rw [c49b0]) | skip)
           as_aux_lemma =>
            have H' := Aside0.mk H
            clear H
            go_wp2
            go_meet
            case rel => exact ⟨_, (false), es, H', ⟨by have := HJ2.out; have := HJ13.out; have := HJ36.out; first | omega | exact Nat.le_refl _⟩, ⟨rU HO_5⟩, ⟨rU HO_6⟩, ⟨rU HO_7⟩, ⟨bU HB⟩⟩
         case rest =>
          clear HC48
          try clear c1; try clear c2; try clear p2; try clear c3; try clear c4; try clear c5; try clear p6; try clear c7; try clear c8; try clear c12; try clear c13; try clear c14; try clear c16; try clear c17; try clear c21; try clear c23; try clear c25; try clear c25b0; try clear c25b1; try clear c25b2; try clear c26; try clear c26b0; try clear c26b1; try clear c27; try clear c27b0; try clear c27b1; try clear c27b2; try clear c28; try clear c28b0; try clear c28b1; try clear c28b2; try clear c29; try clear c29b0; try clear c29b1; try clear c36; try clear c37; try clear c40; try clear c40b0; try clear c40b1; try clear c41; try clear c41b0; try clear c41b1; try clear c41b2; try clear c42; try clear c42b0; try clear c42b1; try clear c45; try clear c46; try clear c46b0; try clear c46b1; try clear c49; try clear c49b0; try clear c49b1; try clear c51; try clear p2; try clear p6
          obtain ⟨kq, x114_47, rfl, HA, HJ47, HO_5, HO_6, HO_7, HB⟩ := hcut
          cases kq with
          | zero => exact absurd HA.out (by simp [cutplanelaw01_NatProducts.j3])
          | succ kj47 =>
           have H := HA.out
           clear HA
           simp only [cutplanelaw01_NatProducts.j3] at H
           by_cases c53 : x114_47 = true
           ·subst c53
            rw [if_pos rfl] at H
            replace H := oc H
            obtain ⟨t759, A54, H⟩ := H
            as_aux_lemma =>
             obtain rfl := Option.some.inj H
             go_wp2_with (first | ((with_reducible refine gc 13 rfl ?_); refine gL (some 115) Try.func13 #[] ?_; (with_reducible refine (cutplanelaw01_known.calls kj47  t759 _ A54.out).mono ?_); rintro e w55 ⟨rfl, hb⟩; refine ⟨_, rfl, ?_⟩; replace HO_5 := rW HO_5 hb; replace HO_6 := rW HO_6 hb; replace HO_7 := rW HO_7 hb; replace HB := bS HB hb; clear hb))
             go_ret
             exact ⟨by first | rfl | (simp [errW_none, errW_some] <;> rfl) | (simp [*, errW_none, errW_some] <;> rfl), bU HB⟩
           ·replace c53 := Bool.eq_false_iff.mpr c53
            subst c53
            rw [if_neg (show ¬ (false = true) by decide)] at H
            replace H := oc H
            obtain ⟨⟨t760, t763, t766⟩, A56, H⟩ := H
            dsimp only at H
            by_cases c57 : (l1.length : Int) = 0
            ·rw [if_pos c57] at H
             have c57b0 : ((l1.length : Int) == 0) = true := beq_iff_eq.mpr c57
             have c57b1 : ((l1.length : Int) != 0) = false := bne_eq_false_iff_eq.mpr c57
             clear c57
             by_cases c58 : (t760.length : Int) = 0
             ·rw [if_pos c58] at H
              have c58b0 : ((t760.length : Int) == 0) = true := beq_iff_eq.mpr c58
              have c58b1 : ((t760.length : Int) != 0) = false := bne_eq_false_iff_eq.mpr c58
              clear c58
              by_cases c59 : (t763.length : Int) = 0
              ·rw [if_pos c59] at H
               have c59b0 : ((t763.length : Int) == 0) = true := beq_iff_eq.mpr c59
               have c59b1 : ((t763.length : Int) != 0) = false := bne_eq_false_iff_eq.mpr c59
               clear c59
               by_cases c60 : t766 = 11
               ·rw [if_pos c60] at H
                have c60b0 : (t766 == 11) = true := beq_iff_eq.mpr c60
                have c60b1 : (t766 != 11) = false := bne_eq_false_iff_eq.mpr c60
                clear c60
                replace H := oc H
                obtain ⟨t767, A61, H⟩ := H
                as_aux_lemma =>
                 obtain rfl := Option.some.inj H
                 go_wp2_with (first | ((with_reducible refine gc 36 rfl ?_); refine gL (some 119) Try.func36 #[.slice Ao17 t733.length co17, .slice Ao18 t736.length co18] ?_; (with_reducible refine (nat_QuoRem.calls kj47 (fun k_ => some k_ = (.slice Ao17 t733.length co17 : Value).ownBlock) _ _ t733 (fun k_ => some k_ = (.slice Ao18 t736.length co18 : Value).ownBlock) _ _ t736 t760 t763 t766 _ ?side1 ?side2 A56.out).mono ?_); (case side1 => exact Kd.R_V (Kd.R_tight rfl (HO_5.out))); (case side2 => exact Kd.R_V (Kd.R_tight rfl (HO_6.out))); rintro e w62 ⟨v761, v764, rfl, ho0, ho1, hb⟩; refine ⟨_, rfl, ?_⟩; have HO762 := rL (rX (rX (rX (Kd.R_mono (ok' := fun k_ => some k_ ≠ (v764 : Value).ownBlock) ho0 (fun _ hk_ => hk_.2)) HO_5) HO_6) HO_7) HB; have HO765 := rL (rX (rX (rX (Kd.R_mono (ok' := fun k_ => some k_ ≠ (v761 : Value).ownBlock) ho1 (fun _ hk_ => hk_.2)) HO_5) HO_6) HO_7) HB; replace HO_5 := Aside0.mk (Kd.R_mono (Kd.R_told (Kd.R_told (Kd.R_old (rU HO_5) hb) (Kd.R_base ho0)) (Kd.R_base ho1)) (fun _ h_ => h_.1)); replace HO_6 := Aside0.mk (Kd.R_mono (Kd.R_told (Kd.R_told (Kd.R_old (rU HO_6) hb) (Kd.R_base ho0)) (Kd.R_base ho1)) (fun _ h_ => h_.1)); replace HO_7 := Aside0.mk (Kd.R_mono (Kd.R_told (Kd.R_told (Kd.R_old (rU HO_7) hb) (Kd.R_base ho0)) (Kd.R_base ho1)) (fun _ h_ => h_.1)); replace HB := bS HB hb; clear hb ho0 ho1; obtain ⟨Ao63, co63, rfl⟩ := Kd.R_slice HO762.out; obtain ⟨Ao64, co64, rfl⟩ := Kd.R_slice HO765.out) | (go_at_call 13; (with_reducible refine (cutplanelaw01_known.calls kj47  t767 _ A61.out).mono ?_); rintro e w65 ⟨rfl, hb⟩; replace HO_5 := rW HO_5 hb; replace HO_6 := rW HO_6 hb; replace HO_7 := rW HO_7 hb; replace HO762 := rW HO762 hb; replace HO765 := rW HO765 hb; replace HB := bS HB hb; clear hb))
                 go_ret
                 exact ⟨by first | rfl | (simp [errW_none, errW_some] <;> rfl) | (simp [*, errW_none, errW_some] <;> rfl), bU HB⟩
               ·rw [if_neg c60] at H
                have c60b0 : (t766 == 11) = false := beq_eq_false_iff_ne.mpr c60
                have c60b1 : (t766 != 11) = true := bne_iff_ne.mpr c60
                exact absurd (Option.some.inj (H.trans (congrArg some hr_))) (by decide)
              ·rw [if_neg c59] at H
               have c59b0 : ((t763.length : Int) == 0) = false := beq_eq_false_iff_ne.mpr c59
               have c59b1 : ((t763.length : Int) != 0) = true := bne_iff_ne.mpr c59
               have c59b2 : ¬ (t763 = []) := fun h_ => c59 (by rw [h_]; rfl)
               exact absurd (Option.some.inj (H.trans (congrArg some hr_))) (by decide)
             ·rw [if_neg c58] at H
              have c58b0 : ((t760.length : Int) == 0) = false := beq_eq_false_iff_ne.mpr c58
              have c58b1 : ((t760.length : Int) != 0) = true := bne_iff_ne.mpr c58
              have c58b2 : ¬ (t760 = []) := fun h_ => c58 (by rw [h_]; rfl)
              exact absurd (Option.some.inj (H.trans (congrArg some hr_))) (by decide)
            ·rw [if_neg c57] at H
             have c57b0 : ((l1.length : Int) == 0) = false := beq_eq_false_iff_ne.mpr c57
             have c57b1 : ((l1.length : Int) != 0) = true := bne_iff_ne.mpr c57
             have c57b2 : ¬ (l1 = []) := fun h_ => c57 (by rw [h_]; rfl)
             replace H := oc H
             obtain ⟨⟨t768, t769⟩, A66, H⟩ := H
             dsimp only at H
             have HC67 := Aside0.mk H
             clear H
             go_upto_region 20 with (first | ((with_reducible refine gc 36 rfl ?_); refine gL (some 119) Try.func36 #[.slice Ao17 t733.length co17, .slice Ao18 t736.length co18] ?_; (with_reducible refine (nat_QuoRem.calls kj47 (fun k_ => some k_ = (.slice Ao17 t733.length co17 : Value).ownBlock) _ _ t733 (fun k_ => some k_ = (.slice Ao18 t736.length co18 : Value).ownBlock) _ _ t736 t760 t763 t766 _ ?side1 ?side2 A56.out).mono ?_); (case side1 => exact Kd.R_V (Kd.R_tight rfl (HO_5.out))); (case side2 => exact Kd.R_V (Kd.R_tight rfl (HO_6.out))); rintro e w68 ⟨v761, v764, rfl, ho0, ho1, hb⟩; refine ⟨_, rfl, ?_⟩; have HO762 := rL (rX (rX (rX (Kd.R_mono (ok' := fun k_ => some k_ ≠ (v764 : Value).ownBlock) ho0 (fun _ hk_ => hk_.2)) HO_5) HO_6) HO_7) HB; have HO765 := rL (rX (rX (rX (Kd.R_mono (ok' := fun k_ => some k_ ≠ (v761 : Value).ownBlock) ho1 (fun _ hk_ => hk_.2)) HO_5) HO_6) HO_7) HB; replace HO_5 := Aside0.mk (Kd.R_mono (Kd.R_told (Kd.R_told (Kd.R_old (rU HO_5) hb) (Kd.R_base ho0)) (Kd.R_base ho1)) (fun _ h_ => h_.1)); replace HO_6 := Aside0.mk (Kd.R_mono (Kd.R_told (Kd.R_told (Kd.R_old (rU HO_6) hb) (Kd.R_base ho0)) (Kd.R_base ho1)) (fun _ h_ => h_.1)); replace HO_7 := Aside0.mk (Kd.R_mono (Kd.R_told (Kd.R_told (Kd.R_old (rU HO_7) hb) (Kd.R_base ho0)) (Kd.R_base ho1)) (fun _ h_ => h_.1)); replace HB := bS HB hb; clear hb ho0 ho1) | ((with_reducible refine gc 38 rfl ?_); refine gL (some 144) Try.func38 #[.slice A0 l0.length c0, .slice A1 l1.length c1] ?_; (with_reducible refine (cutplaneref01_QuoRem.calls kj47 _ _ l0 _ _ l1 t768 t769 _ ?side1 ?side2 ?side3 ?side4 A66.out).mono ?_); (case side1 => exact cB HR0 HB); (case side2 => exact HC0.out); (case side3 => exact cB HR1 HB); (case side4 => exact HC1.out); rintro e w69 ⟨v770, v772, rfl, ho0, ho1, hb⟩; refine ⟨_, rfl, ?_⟩; have HO771 := rL (rX (rX (rX (rX (rX ho0 HO_5) HO_6) HO_7) HO762) HO765) HB; have HO773 := rL (rX (rX (rX (rX (rX ho1 HO_5) HO_6) HO_7) HO762) HO765) HB; replace HO_5 := Aside0.mk (Kd.R_mono (Kd.R_told (Kd.R_told (Kd.R_old (rU HO_5) hb) (Kd.R_base ho0)) (Kd.R_base ho1)) (fun _ h_ => h_.1)); replace HO_6 := Aside0.mk (Kd.R_mono (Kd.R_told (Kd.R_told (Kd.R_old (rU HO_6) hb) (Kd.R_base ho0)) (Kd.R_base ho1)) (fun _ h_ => h_.1)); replace HO_7 := Aside0.mk (Kd.R_mono (Kd.R_told (Kd.R_told (Kd.R_old (rU HO_7) hb) (Kd.R_base ho0)) (Kd.R_base ho1)) (fun _ h_ => h_.1)); replace HO762 := Aside0.mk (Kd.R_mono (Kd.R_told (Kd.R_told (Kd.R_old (rU HO762) hb) (Kd.R_base ho0)) (Kd.R_base ho1)) (fun _ h_ => h_.1)); replace HO765 := Aside0.mk (Kd.R_mono (Kd.R_told (Kd.R_told (Kd.R_old (rU HO765) hb) (Kd.R_base ho0)) (Kd.R_base ho1)) (fun _ h_ => h_.1)); replace HB := bS HB hb; clear hb ho0 ho1))
             (try simp only [Act.put, List.setIfInBounds_toArray, List.set_cons_zero, List.set_cons_succ])
             go_cut [18] (fun v18 wc => ∃ (kq : Nat) (x18_66 : Bool), v18 = .bool x18_66 ∧ Aside0 (cutplanelaw01_NatProducts.j4 kq l0 l1 t733 t736 t739 t760 t763 x18_66 = some r) ∧ Aside0 (kq ≤ kj47) ∧ Aside0 (Kd.R (Kd.int .u32) 42 wc w.heap.size (fun k_ => some k_ ≠ ((.slice Ao18 t736.length co18) : Value).ownBlock ∧ some k_ ≠ (v740 : Value).ownBlock ∧ some k_ ≠ (v761 : Value).ownBlock ∧ some k_ ≠ (v764 : Value).ownBlock) (.slice Ao17 t733.length co17) t733) ∧ Aside0 (Kd.R (Kd.int .u32) 42 wc w.heap.size (fun k_ => some k_ ≠ ((.slice Ao17 t733.length co17) : Value).ownBlock ∧ some k_ ≠ (v740 : Value).ownBlock ∧ some k_ ≠ (v761 : Value).ownBlock ∧ some k_ ≠ (v764 : Value).ownBlock) (.slice Ao18 t736.length co18) t736) ∧ Aside0 (Kd.R (Kd.int .u32) 42 wc w.heap.size (fun k_ => some k_ ≠ ((.slice Ao17 t733.length co17) : Value).ownBlock ∧ some k_ ≠ ((.slice Ao18 t736.length co18) : Value).ownBlock ∧ some k_ ≠ (v761 : Value).ownBlock ∧ some k_ ≠ (v764 : Value).ownBlock) v740 t739) ∧ Aside0 (Kd.R (Kd.int .u32) 42 wc w.heap.size (fun k_ => some k_ ≠ ((.slice Ao17 t733.length co17) : Value).ownBlock ∧ some k_ ≠ ((.slice Ao18 t736.length co18) : Value).ownBlock ∧ some k_ ≠ (v740 : Value).ownBlock ∧ some k_ ≠ (v764 : Value).ownBlock) v761 t760) ∧ Aside0 (Kd.R (Kd.int .u32) 42 wc w.heap.size (fun k_ => some k_ ≠ ((.slice Ao17 t733.length co17) : Value).ownBlock ∧ some k_ ≠ ((.slice Ao18 t736.length co18) : Value).ownBlock ∧ some k_ ≠ (v740 : Value).ownBlock ∧ some k_ ≠ (v761 : Value).ownBlock) v764 t763) ∧ Aside0 (Below w.heap.size w wc))
             case first =>
              have H := HC67.out
              clear HC67
              replace H := oc H
              obtain ⟨t774, A70, H⟩ := H
              by_cases c71 : t774 = true
              ·subst c71
               rw [if_pos rfl] at H
               replace H := oc H
               obtain ⟨t775, A72, H⟩ := H
               by_cases c73 : t775 = true
               ·subst c73
                rw [if_pos rfl] at H
                as_aux_lemma =>
                 have H' := Aside0.mk H
                 clear H
                 obtain ⟨Ao74, co74, eo74⟩ := Kd.R_slice HO762.out
                 subst eo74
                 obtain ⟨Ao75, co75, eo75⟩ := Kd.R_slice HO771.out
                 subst eo75
                 go_wp2_with (first | ((with_reducible refine gc 17 rfl ?_); refine gL (some 149) Try.func17 #[.slice Ao74 t760.length co74, .slice Ao75 t768.length co75] ?_; (with_reducible refine (cutplaneref01_Same.calls kj47 _ _ t760 _ _ t768 true _ ?side1 ?side2 ?side3 ?side4 A70.out).mono ?_); (case side1 => exact rC HO762); (case side2 => exact rN HO762); (case side3 => exact rC HO771); (case side4 => exact rN HO771); rintro e w' ⟨rfl, ⟨nd, rfl⟩⟩; refine ⟨_, rfl, ?_⟩; obtain ⟨Ao76, co76, rfl⟩ := Kd.R_slice HO765.out; obtain ⟨Ao77, co77, rfl⟩ := Kd.R_slice HO773.out) | (go_at_call 17; (with_reducible refine (cutplaneref01_Same.calls kj47 _ _ t763 _ _ t769 true _ ?side1 ?side2 ?side3 ?side4 A72.out).mono ?_); (case side1 => exact rC HO765); (case side2 => exact rN HO765); (case side3 => exact rC HO773); (case side4 => exact rN HO773); rintro e w' ⟨rfl, ⟨nd, rfl⟩⟩))
                 go_meet
                 case rel => exact ⟨_, ((t766 == 0)), es, H', ⟨by have := HJ2.out; have := HJ13.out; have := HJ36.out; have := HJ47.out; first | omega | exact Nat.le_refl _⟩, ⟨by (with_reducible repeat (first | apply Kd.R_alloc | apply Kd.R_drewN | apply Kd.R_drew)); exact Kd.R_mono HO_5.out (fun _ hk => ⟨hk.1.1.1.1.1, ⟨hk.1.1.1.1.2, ⟨hk.1.1.1.2, hk.1.1.2⟩⟩⟩)⟩, ⟨by (with_reducible repeat (first | apply Kd.R_alloc | apply Kd.R_drewN | apply Kd.R_drew)); exact Kd.R_mono HO_6.out (fun _ hk => ⟨hk.1.1.1.1.1, ⟨hk.1.1.1.1.2, ⟨hk.1.1.1.2, hk.1.1.2⟩⟩⟩)⟩, ⟨by (with_reducible repeat (first | apply Kd.R_alloc | apply Kd.R_drewN | apply Kd.R_drew)); exact Kd.R_mono HO_7.out (fun _ hk => ⟨hk.1.1.1.1.1, ⟨hk.1.1.1.1.2, ⟨hk.1.1.1.2, hk.1.1.2⟩⟩⟩)⟩, ⟨by (with_reducible repeat (first | apply Kd.R_alloc | apply Kd.R_drewN | apply Kd.R_drew)); exact Kd.R_mono HO762.out (fun _ hk => ⟨hk.1.1.1.1.2, ⟨hk.1.1.1.2, ⟨hk.1.1.2, hk.1.1.1.1.1⟩⟩⟩)⟩, ⟨by (with_reducible repeat (first | apply Kd.R_alloc | apply Kd.R_drewN | apply Kd.R_drew)); exact Kd.R_mono HO765.out (fun _ hk => ⟨hk.1.1.1.1.2, ⟨hk.1.1.1.2, ⟨hk.1.1.2, hk.1.1.1.1.1⟩⟩⟩)⟩, ⟨bU HB⟩⟩
               ·replace c73 := Bool.eq_false_iff.mpr c73
                subst c73
                rw [if_neg (show ¬ (false = true) by decide)] at H
                as_aux_lemma =>
                 have H' := Aside0.mk H
                 clear H
                 obtain ⟨Ao78, co78, eo78⟩ := Kd.R_slice HO762.out
                 subst eo78
                 obtain ⟨Ao79, co79, eo79⟩ := Kd.R_slice HO771.out
                 subst eo79
                 go_wp2_with (first | ((with_reducible refine gc 17 rfl ?_); refine gL (some 149) Try.func17 #[.slice Ao78 t760.length co78, .slice Ao79 t768.length co79] ?_; (with_reducible refine (cutplaneref01_Same.calls kj47 _ _ t760 _ _ t768 true _ ?side1 ?side2 ?side3 ?side4 A70.out).mono ?_); (case side1 => exact rC HO762); (case side2 => exact rN HO762); (case side3 => exact rC HO771); (case side4 => exact rN HO771); rintro e w' ⟨rfl, ⟨nd, rfl⟩⟩; refine ⟨_, rfl, ?_⟩; obtain ⟨Ao80, co80, rfl⟩ := Kd.R_slice HO765.out; obtain ⟨Ao81, co81, rfl⟩ := Kd.R_slice HO773.out) | (go_at_call 17; (with_reducible refine (cutplaneref01_Same.calls kj47 _ _ t763 _ _ t769 false _ ?side1 ?side2 ?side3 ?side4 A72.out).mono ?_); (case side1 => exact rC HO765); (case side2 => exact rN HO765); (case side3 => exact rC HO773); (case side4 => exact rN HO773); rintro e w' ⟨rfl, ⟨nd, rfl⟩⟩))
                 go_meet
                 case rel => exact ⟨_, (false), es, H', ⟨by have := HJ2.out; have := HJ13.out; have := HJ36.out; have := HJ47.out; first | omega | exact Nat.le_refl _⟩, ⟨by (with_reducible repeat (first | apply Kd.R_alloc | apply Kd.R_drewN | apply Kd.R_drew)); exact Kd.R_mono HO_5.out (fun _ hk => ⟨hk.1.1.1.1.1, ⟨hk.1.1.1.1.2, ⟨hk.1.1.1.2, hk.1.1.2⟩⟩⟩)⟩, ⟨by (with_reducible repeat (first | apply Kd.R_alloc | apply Kd.R_drewN | apply Kd.R_drew)); exact Kd.R_mono HO_6.out (fun _ hk => ⟨hk.1.1.1.1.1, ⟨hk.1.1.1.1.2, ⟨hk.1.1.1.2, hk.1.1.2⟩⟩⟩)⟩, ⟨by (with_reducible repeat (first | apply Kd.R_alloc | apply Kd.R_drewN | apply Kd.R_drew)); exact Kd.R_mono HO_7.out (fun _ hk => ⟨hk.1.1.1.1.1, ⟨hk.1.1.1.1.2, ⟨hk.1.1.1.2, hk.1.1.2⟩⟩⟩)⟩, ⟨by (with_reducible repeat (first | apply Kd.R_alloc | apply Kd.R_drewN | apply Kd.R_drew)); exact Kd.R_mono HO762.out (fun _ hk => ⟨hk.1.1.1.1.2, ⟨hk.1.1.1.2, ⟨hk.1.1.2, hk.1.1.1.1.1⟩⟩⟩)⟩, ⟨by (with_reducible repeat (first | apply Kd.R_alloc | apply Kd.R_drewN | apply Kd.R_drew)); exact Kd.R_mono HO765.out (fun _ hk => ⟨hk.1.1.1.1.2, ⟨hk.1.1.1.2, ⟨hk.1.1.2, hk.1.1.1.1.1⟩⟩⟩)⟩, ⟨bU HB⟩⟩
              ·replace c71 := Bool.eq_false_iff.mpr c71
               subst c71
               rw [if_neg (show ¬ (false = true) by decide)] at H
               as_aux_lemma =>
                have H' := Aside0.mk H
                clear H
                obtain ⟨Ao82, co82, eo82⟩ := Kd.R_slice HO762.out
                subst eo82
                obtain ⟨Ao83, co83, eo83⟩ := Kd.R_slice HO771.out
                subst eo83
                go_wp2_with (first | ((with_reducible refine gc 17 rfl ?_); refine gL (some 149) Try.func17 #[.slice Ao82 t760.length co82, .slice Ao83 t768.length co83] ?_; (with_reducible refine (cutplaneref01_Same.calls kj47 _ _ t760 _ _ t768 false _ ?side1 ?side2 ?side3 ?side4 A70.out).mono ?_); (case side1 => exact rC HO762); (case side2 => exact rN HO762); (case side3 => exact rC HO771); (case side4 => exact rN HO771); rintro e w' ⟨rfl, ⟨nd, rfl⟩⟩; refine ⟨_, rfl, ?_⟩))
                go_meet
                case rel => exact ⟨_, (false), es, H', ⟨by have := HJ2.out; have := HJ13.out; have := HJ36.out; have := HJ47.out; first | omega | exact Nat.le_refl _⟩, ⟨by (with_reducible repeat (first | apply Kd.R_alloc | apply Kd.R_drewN | apply Kd.R_drew)); exact Kd.R_mono HO_5.out (fun _ hk => ⟨hk.1.1.1.1.1, ⟨hk.1.1.1.1.2, ⟨hk.1.1.1.2, hk.1.1.2⟩⟩⟩)⟩, ⟨by (with_reducible repeat (first | apply Kd.R_alloc | apply Kd.R_drewN | apply Kd.R_drew)); exact Kd.R_mono HO_6.out (fun _ hk => ⟨hk.1.1.1.1.1, ⟨hk.1.1.1.1.2, ⟨hk.1.1.1.2, hk.1.1.2⟩⟩⟩)⟩, ⟨by (with_reducible repeat (first | apply Kd.R_alloc | apply Kd.R_drewN | apply Kd.R_drew)); exact Kd.R_mono HO_7.out (fun _ hk => ⟨hk.1.1.1.1.1, ⟨hk.1.1.1.1.2, ⟨hk.1.1.1.2, hk.1.1.2⟩⟩⟩)⟩, ⟨by (with_reducible repeat (first | apply Kd.R_alloc | apply Kd.R_drewN | apply Kd.R_drew)); exact Kd.R_mono HO762.out (fun _ hk => ⟨hk.1.1.1.1.2, ⟨hk.1.1.1.2, ⟨hk.1.1.2, hk.1.1.1.1.1⟩⟩⟩)⟩, ⟨by (with_reducible repeat (first | apply Kd.R_alloc | apply Kd.R_drewN | apply Kd.R_drew)); exact Kd.R_mono HO765.out (fun _ hk => ⟨hk.1.1.1.1.2, ⟨hk.1.1.1.2, ⟨hk.1.1.2, hk.1.1.1.1.1⟩⟩⟩)⟩, ⟨bU HB⟩⟩
             case rest =>
              clear HC67
              try clear c1; try clear c2; try clear p2; try clear c3; try clear c4; try clear c5; try clear c6; try clear p6; try clear c7; try clear c8; try clear c12; try clear c13; try clear c14; try clear c16; try clear c17; try clear c21; try clear c23; try clear c25; try clear c25b0; try clear c25b1; try clear c25b2; try clear c26; try clear c26b0; try clear c26b1; try clear c27; try clear c27b0; try clear c27b1; try clear c27b2; try clear c28; try clear c28b0; try clear c28b1; try clear c28b2; try clear c29; try clear c29b0; try clear c29b1; try clear c36; try clear c37; try clear c38; try clear c40; try clear c40b0; try clear c40b1; try clear c41; try clear c41b0; try clear c41b1; try clear c41b2; try clear c42; try clear c42b0; try clear c42b1; try clear c45; try clear c46; try clear c46b0; try clear c46b1; try clear c49; try clear c49b0; try clear c49b1; try clear c51; try clear c53; try clear c57; try clear c57b0; try clear c57b1; try clear c57b2; try clear c58; try clear c58b0; try clear c58b1; try clear c58b2; try clear c59; try clear c59b0; try clear c59b1; try clear c59b2; try clear c60; try clear c60b0; try clear c60b1; try clear c71; try clear c73; try clear p2; try clear p6
              obtain ⟨kq, x18_66, rfl, HA, HJ66, HO_5, HO_6, HO_7, HO_13, HO_14, HB⟩ := hcut
              cases kq with
              | zero => exact absurd HA.out (by simp [cutplanelaw01_NatProducts.j4])
              | succ kj66 =>
               have H := HA.out
               clear HA
               simp only [cutplanelaw01_NatProducts.j4] at H
               replace H := oc H
               obtain ⟨t776, A84, H⟩ := H
               replace H := oc H
               obtain ⟨t777, A85, H⟩ := H
               replace H := oc H
               obtain ⟨t778, A86, H⟩ := H
               by_cases c87 : x18_66 = true
               ·subst c87
                rw [if_pos rfl] at H
                replace H := oc H
                obtain ⟨t779, A88, H⟩ := H
                by_cases c89 : t779 = true
                ·subst c89
                 rw [if_pos rfl] at H
                 replace H := oc H
                 obtain ⟨t780, A90, H⟩ := H
                 by_cases c91 : t780 = true
                 ·subst c91
                  rw [if_pos rfl] at H
                  replace H := oc H
                  obtain ⟨t781, A92, H⟩ := H
                  as_aux_lemma =>
                   obtain rfl := Option.some.inj H
                   obtain ⟨Ao93, co93, eo93⟩ := Kd.R_slice HO_13.out
                   subst eo93
                   go_wp2_with (first | ((with_reducible refine gc 27 rfl ?_); refine gL (some 160) Try.func27 #[.slice Ao93 t760.length co93] ?_; (with_reducible refine (cutplanelaw01_marked.calls kj66 (fun k_ => some k_ = (.slice Ao93 t760.length co93 : Value).ownBlock) (.slice Ao93 t760.length co93) t760 t776 w _ ?side1 ?side2 A84.out).mono ?_); (case side1 => exact bU HB); (case side2 => exact Kd.R_tight rfl HO_13.out); rintro e w94 ⟨rfl, hy0, hb, hkp⟩; refine ⟨_, rfl, ?_⟩; replace HO_5 := Aside0.mk (Kd.R_mono (ok' := fun k_ => some k_ ≠ (.slice Ao18 t736.length co18 : Value).ownBlock ∧ some k_ ≠ (v740 : Value).ownBlock ∧ some k_ ≠ (.slice Ao93 t760.length co93 : Value).ownBlock ∧ some k_ ≠ (v764 : Value).ownBlock) (Kd.R_keptB (HO_5.out) hkp (fun k_ hk_ hs_ => (hk_.2.2.1) hs_)) (fun k_ hk_ => ⟨hk_.1.1, hk_.1.2.1, hk_.1.2.2.1, hk_.1.2.2.2⟩)); replace HO_6 := Aside0.mk (Kd.R_mono (ok' := fun k_ => some k_ ≠ (.slice Ao17 t733.length co17 : Value).ownBlock ∧ some k_ ≠ (v740 : Value).ownBlock ∧ some k_ ≠ (.slice Ao93 t760.length co93 : Value).ownBlock ∧ some k_ ≠ (v764 : Value).ownBlock) (Kd.R_keptB (HO_6.out) hkp (fun k_ hk_ hs_ => (hk_.2.2.1) hs_)) (fun k_ hk_ => ⟨hk_.1.1, hk_.1.2.1, hk_.1.2.2.1, hk_.1.2.2.2⟩)); replace HO_7 := Aside0.mk (Kd.R_mono (ok' := fun k_ => some k_ ≠ (.slice Ao17 t733.length co17 : Value).ownBlock ∧ some k_ ≠ (.slice Ao18 t736.length co18 : Value).ownBlock ∧ some k_ ≠ (.slice Ao93 t760.length co93 : Value).ownBlock ∧ some k_ ≠ (v764 : Value).ownBlock) (Kd.R_keptB (HO_7.out) hkp (fun k_ hk_ hs_ => (hk_.2.2.1) hs_)) (fun k_ hk_ => ⟨hk_.1.1, hk_.1.2.1, hk_.1.2.2.1, hk_.1.2.2.2⟩)); replace HO_13 := Aside0.mk (Kd.R_reok rfl hy0 (fun k_ e_ => HO_13.out.1 k_ e_)); replace HO_14 := Aside0.mk (Kd.R_mono (ok' := fun k_ => some k_ ≠ (.slice Ao17 t733.length co17 : Value).ownBlock ∧ some k_ ≠ (.slice Ao18 t736.length co18 : Value).ownBlock ∧ some k_ ≠ (v740 : Value).ownBlock ∧ some k_ ≠ (.slice Ao93 t760.length co93 : Value).ownBlock) (Kd.R_keptB (HO_14.out) hkp (fun k_ hk_ hs_ => (hk_.2.2.2) hs_)) (fun k_ hk_ => ⟨hk_.1.1, hk_.1.2.1, hk_.1.2.2.1, hk_.1.2.2.2⟩)); replace HB := Aside0.mk (hb); clear hb hkp hy0; obtain ⟨Ao95, co95, rfl⟩ := Kd.R_slice HO_14.out) | ((with_reducible refine gc 27 rfl ?_); refine gL (some 162) Try.func27 #[.slice Ao95 t763.length co95] ?_; (with_reducible refine (cutplanelaw01_marked.calls kj66 (fun k_ => some k_ = (.slice Ao95 t763.length co95 : Value).ownBlock) (.slice Ao95 t763.length co95) t763 t777 w _ ?side1 ?side2 A85.out).mono ?_); (case side1 => exact bU HB); (case side2 => exact Kd.R_tight rfl HO_14.out); rintro e w96 ⟨rfl, hy0, hb, hkp⟩; refine ⟨_, rfl, ?_⟩; replace HO_5 := Aside0.mk (Kd.R_mono (ok' := fun k_ => some k_ ≠ (.slice Ao18 t736.length co18 : Value).ownBlock ∧ some k_ ≠ (v740 : Value).ownBlock ∧ some k_ ≠ (.slice Ao93 t760.length co93 : Value).ownBlock ∧ some k_ ≠ (.slice Ao95 t763.length co95 : Value).ownBlock) (Kd.R_keptB (HO_5.out) hkp (fun k_ hk_ hs_ => (hk_.2.2.2) hs_)) (fun k_ hk_ => ⟨hk_.1.1, hk_.1.2.1, hk_.1.2.2.1, hk_.1.2.2.2⟩)); replace HO_6 := Aside0.mk (Kd.R_mono (ok' := fun k_ => some k_ ≠ (.slice Ao17 t733.length co17 : Value).ownBlock ∧ some k_ ≠ (v740 : Value).ownBlock ∧ some k_ ≠ (.slice Ao93 t760.length co93 : Value).ownBlock ∧ some k_ ≠ (.slice Ao95 t763.length co95 : Value).ownBlock) (Kd.R_keptB (HO_6.out) hkp (fun k_ hk_ hs_ => (hk_.2.2.2) hs_)) (fun k_ hk_ => ⟨hk_.1.1, hk_.1.2.1, hk_.1.2.2.1, hk_.1.2.2.2⟩)); replace HO_7 := Aside0.mk (Kd.R_mono (ok' := fun k_ => some k_ ≠ (.slice Ao17 t733.length co17 : Value).ownBlock ∧ some k_ ≠ (.slice Ao18 t736.length co18 : Value).ownBlock ∧ some k_ ≠ (.slice Ao93 t760.length co93 : Value).ownBlock ∧ some k_ ≠ (.slice Ao95 t763.length co95 : Value).ownBlock) (Kd.R_keptB (HO_7.out) hkp (fun k_ hk_ hs_ => (hk_.2.2.2) hs_)) (fun k_ hk_ => ⟨hk_.1.1, hk_.1.2.1, hk_.1.2.2.1, hk_.1.2.2.2⟩)); replace HO_13 := Aside0.mk (Kd.R_mono (ok' := fun k_ => some k_ ≠ (.slice Ao17 t733.length co17 : Value).ownBlock ∧ some k_ ≠ (.slice Ao18 t736.length co18 : Value).ownBlock ∧ some k_ ≠ (v740 : Value).ownBlock ∧ some k_ ≠ (.slice Ao95 t763.length co95 : Value).ownBlock) (Kd.R_keptB (HO_13.out) hkp (fun k_ hk_ hs_ => (hk_.2.2.2) hs_)) (fun k_ hk_ => ⟨hk_.1.1, hk_.1.2.1, hk_.1.2.2.1, hk_.1.2.2.2⟩)); replace HO_14 := Aside0.mk (Kd.R_reok rfl hy0 (fun k_ e_ => HO_14.out.1 k_ e_)); replace HB := Aside0.mk (hb); clear hb hkp hy0; obtain ⟨Ao97, co97, rfl⟩ := Kd.R_slice HO_7.out) | ((with_reducible refine gc 27 rfl ?_); refine gL (some 164) Try.func27 #[.slice Ao97 t739.length co97] ?_; (with_reducible refine (cutplanelaw01_marked.calls kj66 (fun k_ => some k_ = (.slice Ao97 t739.length co97 : Value).ownBlock) (.slice Ao97 t739.length co97) t739 t778 w _ ?side1 ?side2 A86.out).mono ?_); (case side1 => exact bU HB); (case side2 => exact Kd.R_tight rfl HO_7.out); rintro e w98 ⟨rfl, hy0, hb, hkp⟩; refine ⟨_, rfl, ?_⟩; replace HO_5 := Aside0.mk (Kd.R_mono (ok' := fun k_ => some k_ ≠ (.slice Ao18 t736.length co18 : Value).ownBlock ∧ some k_ ≠ (.slice Ao97 t739.length co97 : Value).ownBlock ∧ some k_ ≠ (.slice Ao93 t760.length co93 : Value).ownBlock ∧ some k_ ≠ (.slice Ao95 t763.length co95 : Value).ownBlock) (Kd.R_keptB (HO_5.out) hkp (fun k_ hk_ hs_ => (hk_.2.1) hs_)) (fun k_ hk_ => ⟨hk_.1.1, hk_.1.2.1, hk_.1.2.2.1, hk_.1.2.2.2⟩)); replace HO_6 := Aside0.mk (Kd.R_mono (ok' := fun k_ => some k_ ≠ (.slice Ao17 t733.length co17 : Value).ownBlock ∧ some k_ ≠ (.slice Ao97 t739.length co97 : Value).ownBlock ∧ some k_ ≠ (.slice Ao93 t760.length co93 : Value).ownBlock ∧ some k_ ≠ (.slice Ao95 t763.length co95 : Value).ownBlock) (Kd.R_keptB (HO_6.out) hkp (fun k_ hk_ hs_ => (hk_.2.1) hs_)) (fun k_ hk_ => ⟨hk_.1.1, hk_.1.2.1, hk_.1.2.2.1, hk_.1.2.2.2⟩)); replace HO_7 := Aside0.mk (Kd.R_reok rfl hy0 (fun k_ e_ => HO_7.out.1 k_ e_)); replace HO_13 := Aside0.mk (Kd.R_mono (ok' := fun k_ => some k_ ≠ (.slice Ao17 t733.length co17 : Value).ownBlock ∧ some k_ ≠ (.slice Ao18 t736.length co18 : Value).ownBlock ∧ some k_ ≠ (.slice Ao97 t739.length co97 : Value).ownBlock ∧ some k_ ≠ (.slice Ao95 t763.length co95 : Value).ownBlock) (Kd.R_keptB (HO_13.out) hkp (fun k_ hk_ hs_ => (hk_.2.2.1) hs_)) (fun k_ hk_ => ⟨hk_.1.1, hk_.1.2.1, hk_.1.2.2.1, hk_.1.2.2.2⟩)); replace HO_14 := Aside0.mk (Kd.R_mono (ok' := fun k_ => some k_ ≠ (.slice Ao17 t733.length co17 : Value).ownBlock ∧ some k_ ≠ (.slice Ao18 t736.length co18 : Value).ownBlock ∧ some k_ ≠ (.slice Ao97 t739.length co97 : Value).ownBlock ∧ some k_ ≠ (.slice Ao93 t760.length co93 : Value).ownBlock) (Kd.R_keptB (HO_14.out) hkp (fun k_ hk_ hs_ => (hk_.2.2.1) hs_)) (fun k_ hk_ => ⟨hk_.1.1, hk_.1.2.1, hk_.1.2.2.1, hk_.1.2.2.2⟩)); replace HB := Aside0.mk (hb); clear hb hkp hy0) | (go_at_call 17; (with_reducible refine (cutplaneref01_Same.calls kj66 _ _ t733 _ _ l0 true _ ?side1 ?side2 ?side3 ?side4 A88.out).mono ?_); (case side1 => exact rC HO_5); (case side2 => exact rN HO_5); (case side3 => exact cB HR0 HB); (case side4 => exact HC0.out); rintro e w' ⟨rfl, ⟨nd, rfl⟩⟩) | (go_at_call 17; (with_reducible refine (cutplaneref01_Same.calls kj66 _ _ t736 _ _ l1 true _ ?side1 ?side2 ?side3 ?side4 A90.out).mono ?_); (case side1 => exact rC HO_6); (case side2 => exact rN HO_6); (case side3 => exact cB HR1 HB); (case side4 => exact HC1.out); rintro e w' ⟨rfl, ⟨nd, rfl⟩⟩) | (go_at_call 13; (with_reducible refine (cutplanelaw01_known.calls kj66  t781 _ A92.out).mono ?_); rintro e w99 ⟨rfl, hb⟩; replace HO_5 := rW HO_5 hb; replace HO_6 := rW HO_6 hb; replace HO_7 := rW HO_7 hb; replace HO_13 := rW HO_13 hb; replace HO_14 := rW HO_14 hb; replace HB := bS HB hb; clear hb))
                   go_ret
                   exact ⟨by first | rfl | (simp [errW_none, errW_some] <;> rfl) | (simp [*, errW_none, errW_some] <;> rfl), bU HB⟩
                 ·replace c91 := Bool.eq_false_iff.mpr c91
                  subst c91
                  rw [if_neg (show ¬ (false = true) by decide)] at H
                  exact absurd (Option.some.inj (H.trans (congrArg some hr_))) (by decide)
                ·replace c89 := Bool.eq_false_iff.mpr c89
                 subst c89
                 rw [if_neg (show ¬ (false = true) by decide)] at H
                 exact absurd (Option.some.inj (H.trans (congrArg some hr_))) (by decide)
               ·replace c87 := Bool.eq_false_iff.mpr c87
                subst c87
                rw [if_neg (show ¬ (false = true) by decide)] at H
                exact absurd (Option.some.inj (H.trans (congrArg some hr_))) (by decide)

/-- THE ONE PURE STATEMENT of cutplanelaw01_NatProducts: yours. -/
def cutplanelaw01_NatProducts.Pure : Prop := ∀ (l0 : List Int) (l1 : List Int), l0.length ≤ maxLen → l0.length * 4 ≤ 140737488351232 → (∀ x ∈ l0, (Lit.int .u32 x).wf = true) → l1.length ≤ maxLen → l1.length * 4 ≤ 140737488351232 → (∀ x ∈ l1, (Lit.int .u32 x).wf = true) → ∃ k, cutplanelaw01_NatProducts.f k l0 l1 = some true
theorem cutplanelaw01_NatProducts.walk (P : cutplanelaw01_NatProducts.Pure) (a0 : Option Addr) (len0 cap0 : Nat) (z0 : List Int) (a1 : Option Addr) (len1 cap1 : Nat) (z1 : List Int) (w : World) (w0 : (a0 = none ∧ len0 = 0 ∧ cap0 = 0 ∧ z0 = []) ∨ ∃ x, a0 = some x ∧ len0 ≤ cap0 ∧ cap0 ≤ maxLen ∧ z0.length = cap0 ∧ (∀ i, i < z0.length → w.cell? (x.add i) = some (.int .u32 (z0.getD i 0))) ∧ ∀ n ∈ z0, (Lit.int .u32 n).wf = true) (y0 : len0 * 4 ≤ 140737488351232) (w1 : (a1 = none ∧ len1 = 0 ∧ cap1 = 0 ∧ z1 = []) ∨ ∃ x, a1 = some x ∧ len1 ≤ cap1 ∧ cap1 ≤ maxLen ∧ z1.length = cap1 ∧ (∀ i, i < z1.length → w.cell? (x.add i) = some (.int .u32 (z1.getD i 0))) ∧ ∀ n ∈ z1, (Lit.int .u32 n).wf = true) (y1 : len1 * 4 ≤ 140737488351232) :
  Calls Try.prog 8 #[.slice a0 len0 cap0, .slice a1 len1 cap1] w fun e w' => e = .returned (.bool true) ∧ Below w.heap.size w w' := by
 obtain ⟨l0, rfl, hr0, hm0, hw0, hc0⟩ := ReadsInt.ofRowC w0
 obtain ⟨l1, rfl, hr1, hm1, hw1, hc1⟩ := ReadsInt.ofRowC w1
 obtain ⟨k, h⟩ := P l0 l1 hm0 y0 hw0 hm1 y1 hw1
 refine (cutplanelaw01_NatProducts.calls k _ _ l0 _ _ l1 true w (Kd.C_of_reads (d := (0 : Int)) (h1 := fun _ => rfl) hr0) hc0 (Kd.C_of_reads (d := (0 : Int)) (h1 := fun _ => rfl) hr1) hc1 h rfl).mono ?_
 rintro e w' ⟨rfl, hd⟩
 exact ⟨rfl, hd⟩

end Go.Proofs.Ytldcelgbinenbaa.Px
