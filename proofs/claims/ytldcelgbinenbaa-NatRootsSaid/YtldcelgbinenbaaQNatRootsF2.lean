import Derived.Test.YtldcelgbinenbaaQNatRootsF1
namespace Go.Proofs.Ytldcelgbinenbaa.Px
open Go.RowKit Go.Proofs.YtldcelgbinenbaaW.PrintWords Go.Proofs.YtldcelgbinenbaaW.PrintLast Go.Proofs.YtldcelgbinenbaaW.PrintMore
attribute [local go_sem] max2_int min2_int max_two min_two max_three min_three max_four min_four   -- for this text's walks alone
set_option linter.unusedVariables false
set_option linter.unusedSimpArgs false

/-! ### nat_step: function 66 -/
mutual
def nat_step.j2 : Nat → List Int → List Int → Int → Int → Option (Int × List Int)
 | 0, _, _, _, _ => none
 | k + 1, x0, x1, x5, x7 => nat_step.l1 k x0 x1 x5 x7 0 0 x1 (x1.length : Int) 0
def nat_step.l1 : Nat → List Int → List Int → Int → Int → Int → Int → List Int → Int → Int → Option (Int × List Int)
 | 0, _, _, _, _, _, _, _, _, _ => none
 | k + 1, x0, x1, x5, x7, x9, x10, x81, x82, x83 => if x83 < x82 then (if 0 ≤ x83 then (if x83 < (x81.length : Int) then (if x83 < (x0.length : Int) then ((bits_Sub32.f (rd x0 x83) ((IntKind.u64.wrap (x10 + (IntKind.u64.wrap (x7 * (IntKind.u64.wrap (rd x81 x83)))))) % 4294967296) x9).bind fun bt591 => (nat_step.l1 k (x0.set (x83 : Int).toNat bt591.1) x1 x5 x7 bt591.2 ((IntKind.u64.wrap (x10 + (IntKind.u64.wrap (x7 * (IntKind.u64.wrap (rd x81 x83)))))) / 4294967296) x81 x82 (wrap64 (x83 + 1)))) else (none)) else (none)) else (none)) else (if 0 ≤ x5 then (if x5 < (x0.length : Int) then ((bits_Sub32.f (rd x0 x5) ((x10) % 4294967296) x9).bind fun bt595 => ((some (x0.set (x5 : Int).toNat bt595.1 : List Int)).bind fun y597 => (if bt595.2 = 0 then (some ((x7) % 4294967296, y597)) else (nat_step.l2 k y597 x5 x7 0 x1 (x1.length : Int) 0)))) else (none)) else (none))
def nat_step.l2 : Nat → List Int → Int → Int → Int → List Int → Int → Int → Option (Int × List Int)
 | 0, _, _, _, _, _, _, _ => none
 | k + 1, x0, x5, x7, x13, x129, x130, x131 => if x131 < x130 then (if 0 ≤ x131 then (if x131 < (x129.length : Int) then (if x131 < (x0.length : Int) then ((bits_Add32.f (rd x0 x131) (rd x129 x131) x13).bind fun bt600 => (nat_step.l2 k (x0.set (x131 : Int).toNat bt600.1) x5 x7 bt600.2 x129 x130 (wrap64 (x131 + 1)))) else (none)) else (none)) else (none)) else (if 0 ≤ x5 then (if x5 < (x0.length : Int) then (some ((IntKind.u64.wrap (x7 - 1)) % 4294967296, (x0.set (x5 : Int).toNat (((rd x0 x5) + x13) % 4294967296)))) else (none)) else (none))
def nat_step.l0 : Nat → List Int → List Int → Int → Int → Int → Option (Int × List Int)
 | 0, _, _, _, _, _ => none
 | k + 1, x0, x1, x5, x7, x8 => if x7 ≥ 4294967296 then (nat_step.j1 k x0 x1 x5 x7 x8 true) else (if 0 ≤ (wrap64 (x5 - 2)) then (if (wrap64 (x5 - 2)) < (x1.length : Int) then (if (wrap64 (x5 - 2)) < (x0.length : Int) then (nat_step.j1 k x0 x1 x5 x7 x8 (decide ((IntKind.u64.wrap (x7 * (IntKind.u64.wrap (rd x1 (wrap64 (x5 - 2)))))) > (Go.bits .or .u64 (IntKind.u64.wrap (x8 * 4294967296)) (IntKind.u64.wrap (rd x0 (wrap64 (x5 - 2)))))))) else (none)) else (none)) else (none))
def nat_step.j1 : Nat → List Int → List Int → Int → Int → Int → Bool → Option (Int × List Int)
 | 0, _, _, _, _, _, _ => none
 | k + 1, x0, x1, x5, x7, x8, x68 => if x68 = true then (if 0 ≤ (wrap64 (x5 - 1)) then (if (wrap64 (x5 - 1)) < (x1.length : Int) then (if (IntKind.u64.wrap (x8 + (IntKind.u64.wrap (rd x1 (wrap64 (x5 - 1)))))) ≥ 4294967296 then (nat_step.j2 k x0 x1 x5 (IntKind.u64.wrap (x7 - 1))) else (nat_step.l0 k x0 x1 x5 (IntKind.u64.wrap (x7 - 1)) (IntKind.u64.wrap (x8 + (IntKind.u64.wrap (rd x1 (wrap64 (x5 - 1)))))))) else (none)) else (none)) else (nat_step.j2 k x0 x1 x5 x7)
end
def nat_step.f (k : Nat) (l0 : List Int) (l1 : List Int) : Option (Int × List Int) := if 0 ≤ (l1.length : Int) then (if (l1.length : Int) < (l0.length : Int) then (if 0 ≤ (wrap64 ((l1.length : Int) - 1)) then (if (wrap64 ((l1.length : Int) - 1)) < (l0.length : Int) then (if (wrap64 ((l1.length : Int) - 1)) < (l1.length : Int) then (if (IntKind.u64.wrap (rd l1 (wrap64 ((l1.length : Int) - 1)))) = 0 then (none) else (nat_step.l0 k l0 l1 (l1.length : Int) (IntKind.u64.wrap (Int.tdiv (Go.bits .or .u64 (IntKind.u64.wrap ((IntKind.u64.wrap (rd l0 (l1.length : Int))) * 4294967296)) (IntKind.u64.wrap (rd l0 (wrap64 ((l1.length : Int) - 1))))) (IntKind.u64.wrap (rd l1 (wrap64 ((l1.length : Int) - 1)))))) (Int.tmod (Go.bits .or .u64 (IntKind.u64.wrap ((IntKind.u64.wrap (rd l0 (l1.length : Int))) * 4294967296)) (IntKind.u64.wrap (rd l0 (wrap64 ((l1.length : Int) - 1))))) (IntKind.u64.wrap (rd l1 (wrap64 ((l1.length : Int) - 1))))))) else (none)) else (none)) else (none)) else (none)) else (none)
theorem nat_step.mono_l : ∀ k, (∀ y0 y1 y2 y3, LeO (nat_step.j2 k y0 y1 y2 y3) (nat_step.j2 (k + 1) y0 y1 y2 y3)) ∧ (∀ y0 y1 y2 y3 y4 y5 y6 y7 y8, LeO (nat_step.l1 k y0 y1 y2 y3 y4 y5 y6 y7 y8) (nat_step.l1 (k + 1) y0 y1 y2 y3 y4 y5 y6 y7 y8)) ∧ (∀ y0 y1 y2 y3 y4 y5 y6, LeO (nat_step.l2 k y0 y1 y2 y3 y4 y5 y6) (nat_step.l2 (k + 1) y0 y1 y2 y3 y4 y5 y6)) ∧ (∀ y0 y1 y2 y3 y4, LeO (nat_step.l0 k y0 y1 y2 y3 y4) (nat_step.l0 (k + 1) y0 y1 y2 y3 y4)) ∧ (∀ y0 y1 y2 y3 y4 y5, LeO (nat_step.j1 k y0 y1 y2 y3 y4 y5) (nat_step.j1 (k + 1) y0 y1 y2 y3 y4 y5))
 | 0 => ⟨fun _ _ _ _ r h => by simp [nat_step.j2] at h, fun _ _ _ _ _ _ _ _ _ r h => by simp [nat_step.l1] at h, fun _ _ _ _ _ _ _ r h => by simp [nat_step.l2] at h, fun _ _ _ _ _ r h => by simp [nat_step.l0] at h, fun _ _ _ _ _ _ r h => by simp [nat_step.j1] at h⟩
 | k + 1 => by
  obtain ⟨ih0, ih1, ih2, ih3, ih4⟩ := nat_step.mono_l k
  refine ⟨?_, ?_, ?_, ?_, ?_⟩
  ·intro y0 y1 y2 y3
   unfold nat_step.j2
   repeat' (with_reducible first | exact ih0 _ _ _ _ | exact ih1 _ _ _ _ _ _ _ _ _ | exact ih2 _ _ _ _ _ _ _ | exact ih3 _ _ _ _ _ | exact ih4 _ _ _ _ _ _ | exact LeO.refl _ | exact LeO.none _ | refine LeO.ite ?_ ?_ | refine LeO.bind ?_ (fun _ => ?_))
  ·intro y0 y1 y2 y3 y4 y5 y6 y7 y8
   unfold nat_step.l1
   repeat' (with_reducible first | exact ih0 _ _ _ _ | exact ih1 _ _ _ _ _ _ _ _ _ | exact ih2 _ _ _ _ _ _ _ | exact ih3 _ _ _ _ _ | exact ih4 _ _ _ _ _ _ | exact LeO.refl _ | exact LeO.none _ | refine LeO.ite ?_ ?_ | refine LeO.bind ?_ (fun _ => ?_))
  ·intro y0 y1 y2 y3 y4 y5 y6
   unfold nat_step.l2
   repeat' (with_reducible first | exact ih0 _ _ _ _ | exact ih1 _ _ _ _ _ _ _ _ _ | exact ih2 _ _ _ _ _ _ _ | exact ih3 _ _ _ _ _ | exact ih4 _ _ _ _ _ _ | exact LeO.refl _ | exact LeO.none _ | refine LeO.ite ?_ ?_ | refine LeO.bind ?_ (fun _ => ?_))
  ·intro y0 y1 y2 y3 y4
   unfold nat_step.l0
   repeat' (with_reducible first | exact ih0 _ _ _ _ | exact ih1 _ _ _ _ _ _ _ _ _ | exact ih2 _ _ _ _ _ _ _ | exact ih3 _ _ _ _ _ | exact ih4 _ _ _ _ _ _ | exact LeO.refl _ | exact LeO.none _ | refine LeO.ite ?_ ?_ | refine LeO.bind ?_ (fun _ => ?_))
  ·intro y0 y1 y2 y3 y4 y5
   unfold nat_step.j1
   repeat' (with_reducible first | exact ih0 _ _ _ _ | exact ih1 _ _ _ _ _ _ _ _ _ | exact ih2 _ _ _ _ _ _ _ | exact ih3 _ _ _ _ _ | exact ih4 _ _ _ _ _ _ | exact LeO.refl _ | exact LeO.none _ | refine LeO.ite ?_ ?_ | refine LeO.bind ?_ (fun _ => ?_))
theorem nat_step.mono : ∀ a0 a1 k, LeO (nat_step.f k a0 a1) (nat_step.f (k + 1) a0 a1) := by
 intro a0 a1 k
 obtain ⟨ih0, ih1, ih2, ih3, ih4⟩ := nat_step.mono_l k
 unfold nat_step.f
 repeat' (with_reducible first | exact ih0 _ _ _ _ | exact ih1 _ _ _ _ _ _ _ _ _ | exact ih2 _ _ _ _ _ _ _ | exact ih3 _ _ _ _ _ | exact ih4 _ _ _ _ _ _ | exact LeO.refl _ | exact LeO.none _ | refine LeO.ite ?_ ?_ | refine LeO.bind ?_ (fun _ => ?_))
set_option maxHeartbeats 8000000 in
set_option maxRecDepth 100000 in
theorem nat_step.calls {pre_ post_ : List Int} {pg_ pc_ : Nat} (k : Nat) (P0_ : Nat → Prop) (u9000_ : Value) (l0 : List Int) (A1 : Option Addr) (c1 : Nat) (l1 : List Int) (r1 : Int) (r2 : List Int) (w0 w : World) (hB : Below w0.heap.size w0 w) (ho0 : PQ pre_ post_ pg_ pc_ 42 w w0.heap.size P0_ u9000_ l0) (hr1 : ∀ W_, Kept w W_ (fun k_ => P0_ k_) → Kd.C (Kd.int .u32) W_ A1 l1.length l1) (hc1 : l1.length ≤ c1) (h : nat_step.f k l0 l1 = some (r1, r2)) :
  Calls Try.prog 66 #[u9000_, .slice A1 l1.length c1] w fun e w' => e = .returned (.int .u32 r1) ∧ PQ pre_ post_ pg_ pc_ 42 w' w0.heap.size (fun k_ => (P0_ k_ ∨ w.heap.size ≤ k_)) u9000_ r2 ∧ Below w0.heap.size w0 w' ∧ Kept w w' (fun k_ => P0_ k_) := by
 have HO0 := Aside0.mk (show PQ pre_ post_ pg_ pc_ 42 w w0.heap.size (fun k_ => (P0_ k_ ∨ w.heap.size ≤ k_)) u9000_ l0 from PQ_mono ho0 (fun k_ hk => (.inl hk)))
 have HR1 := Aside0.mk hr1
 have HC1 := Aside0.mk hc1
 clear hr1 hc1
 have HK := Aside0.mk (Kept.refl w (fun k_ => P0_ k_))
 have HW0 := Aside0.mk hB.size
 have HB := Aside0.mk hB
 clear hB
 have H := h
 unfold nat_step.f at H
 clear h
 by_cases c3 : 0 ≤ (l1.length : Int)
 ·rw [if_pos c3] at H
  have c3b0 := decide_eq_true c3
  have c3b1 : decide (0 ≤ l1.length) = true := decide_eq_true (by omega)
  clear c3
  by_cases c4 : (l1.length : Int) < (l0.length : Int)
  ·rw [if_pos c4] at H
   have c4b0 := decide_eq_true c4
   have c4b1 : decide (l1.length < l0.length) = true := decide_eq_true (Int.ofNat_lt.mp c4)
   clear c4
   obtain ⟨ji5, hji5⟩ : ∃ j_ : Int, (wrap64 ((l1.length : Int) - 1)) = j_ := ⟨_, rfl⟩
   (first | rw [hji5] at H | simp only [hji5] at H)
   have hji5w : (IntKind.i64.wrap ((l1.length : Int) - 1)) = ji5 := (i64_w _).trans hji5
   by_cases c6 : 0 ≤ (ji5)
   ·rw [if_pos c6] at H
    have c6b0 := decide_eq_true c6
    clear c6
    by_cases c7 : (ji5) < (l0.length : Int)
    ·rw [if_pos c7] at H
     have c7b0 := decide_eq_true c7
     clear c7
     by_cases c8 : (ji5) < (l1.length : Int)
     ·rw [if_pos c8] at H
      have c8b0 := decide_eq_true c8
      clear c8
      by_cases c9 : (IntKind.u64.wrap (rd l1 (ji5))) = 0
      ·rw [if_pos c9] at H
       exact absurd H (by simp)
      ·rw [if_neg c9] at H
       have c9b0 : ((IntKind.u64.wrap (rd l1 (ji5))) == 0) = false := beq_eq_false_iff_ne.mpr c9
       have c9b1 : ((IntKind.u64.wrap (rd l1 (ji5))) != 0) = true := bne_iff_ne.mpr c9
       have HC10 := Aside0.mk H
       clear H
       obtain ⟨Ao11, co11, eo11, _⟩ := PQ_slice HO0.out
       subst eo11
       have p582 : 0 ≤ ((l1.length : Int) : Int) := of_decide_eq_true (by first | (with_reducible assumption) | assumption)
       have q582 : (l1.length : Int) < (l0.length : Int) := of_decide_eq_true (by first | (with_reducible assumption) | assumption)
       obtain ⟨ad582, e582, hx582_0⟩ := Kd.at_int (PQ_reads' HO0.out).2.2 (l1.length : Int) p582 q582
       cases e582
       (try simp only [Go.IntWalk.toNatUp] at hx582_0)
       replace p582 := eq_true p582
       replace q582 := eq_true q582
       have p583 : 0 ≤ ((ji5) : Int) := of_decide_eq_true (by first | (with_reducible assumption) | assumption)
       have q583 : (ji5) < (l0.length : Int) := of_decide_eq_true (by first | (with_reducible assumption) | assumption)
       obtain ⟨ad583, e583, hx583_0⟩ := Kd.at_int (PQ_reads' HO0.out).2.2 (ji5) p583 q583
       obtain rfl : ad582 = ad583 := (by injection e583)
       replace p583 := eq_true p583
       replace q583 := eq_true q583
       have p584 : 0 ≤ ((ji5) : Int) := of_decide_eq_true (by first | (with_reducible assumption) | assumption)
       have q584 : (ji5) < (l1.length : Int) := of_decide_eq_true (by first | (with_reducible assumption) | assumption)
       obtain ⟨ad584, e584, hx584_0⟩ := Kd.at_int (Kd.C_kept_now HR1.out HK.out) (ji5) p584 q584
       cases e584
       replace p584 := eq_true p584
       replace q584 := eq_true q584
       have p585 : 0 ≤ ((ji5) : Int) := of_decide_eq_true (by first | (with_reducible assumption) | assumption)
       have q585 : (ji5) < (l1.length : Int) := of_decide_eq_true (by first | (with_reducible assumption) | assumption)
       obtain ⟨ad585, e585, hx585_0⟩ := Kd.at_int (Kd.C_kept_now HR1.out HK.out) (ji5) p585 q585
       obtain rfl : ad584 = ad585 := (by injection e585)
       replace p585 := eq_true p585
       replace q585 := eq_true q585
       go_enter Try.func66, Try.ntmps66
       go_upto_block 0 with (fail)
       repeat (go_quiet (fail); go_upto_block 0 with (fail))
       (try generalize ad582.add (l1.length : Int).toNat = pa582_)
       (try generalize ad582.add l1.length = pa582_)
       (try generalize ad582.add (ji5).toNat = pa583_)
       (try generalize ad584.add (ji5).toNat = pa584_)
       (try generalize ad584.add (ji5).toNat = pa585_)
       go_cut [7] (fun v7 wc => ∃ (kq : Nat) (x7_9 : Int), v7 = .int .u64 x7_9 ∧ Aside0 (nat_step.j2 kq l0 l1 (l1.length : Int) x7_9 = some (r1, r2)) ∧ Aside0 (kq ≤ k) ∧ Aside0 (PQ pre_ post_ pg_ pc_ 42 wc w0.heap.size (fun k_ => (P0_ k_ ∨ w.heap.size ≤ k_)) (.slice (some ad582) l0.length co11) l0) ∧ Aside0 (Kept w wc (fun k_ => P0_ k_)) ∧ Aside0 (Below w0.heap.size w0 wc))
       case first =>
        have H := HC10.out
        clear HC10
        have H' := Aside0.mk H
        clear H
        go_wp2
        repeat (go_quiet (fail); try go_wp2)
        (try generalize ad582.add (l1.length : Int).toNat = pa582_)
        (try generalize ad582.add l1.length = pa582_)
        (try generalize ad582.add (ji5).toNat = pa583_)
        (try generalize ad584.add (ji5).toNat = pa584_)
        (try generalize ad584.add (ji5).toNat = pa585_)
        go_loopg [7, 8] k (fun kq v7 v8 w' => ∃ (x7_1 : Int) (x8_1 : Int), v7 = .int .u64 x7_1 ∧ v8 = .int .u64 x8_1 ∧ Aside0 (nat_step.l0 kq l0 l1 (l1.length : Int) x7_1 x8_1 = some (r1, r2)) ∧ Aside0 (kq ≤ k) ∧ Aside0 (PQ pre_ post_ pg_ pc_ 42 w' w0.heap.size (fun k_ => (P0_ k_ ∨ w.heap.size ≤ k_)) (.slice (some ad582) l0.length co11) l0) ∧ Aside0 (Kept w w' (fun k_ => P0_ k_)) ∧ Aside0 (Below w0.heap.size w0 w'))
        case atStart => exact ⟨(IntKind.u64.wrap (Int.tdiv (Go.bits .or .u64 (IntKind.u64.wrap ((IntKind.u64.wrap (rd l0 (l1.length : Int))) * 4294967296)) (IntKind.u64.wrap (rd l0 (ji5)))) (IntKind.u64.wrap (rd l1 (ji5))))), (Int.tmod (Go.bits .or .u64 (IntKind.u64.wrap ((IntKind.u64.wrap (rd l0 (l1.length : Int))) * 4294967296)) (IntKind.u64.wrap (rd l0 (ji5)))) (IntKind.u64.wrap (rd l1 (ji5)))), (by first | rfl | (simp; done) | (simp only [← hji5] <;> (first | rfl | simp)) | (simp [*]; done)), (by first | rfl | (simp; done) | (simp only [← hji5] <;> (first | rfl | simp)) | (simp [*]; done)), H', ⟨Nat.le_refl _⟩, ⟨by (with_reducible repeat (first | apply PQ_alloc | apply PQ_drewN | apply PQ_drew)); exact HO0.out⟩, ⟨by repeat (first | (with_reducible first | exact HK.out | apply Kept.alloc | apply Kept.drewN | apply Kept.drew) | exact HK.out)⟩, ⟨bU HB⟩⟩
        case round =>
         clear H'
         try clear c1; try clear p2; try clear c3; try clear c3b0; try clear c3b1; try clear c4; try clear c4b0; try clear c4b1; try clear p5; try clear q5; try clear hx5; try clear c6; try clear c6b0; try clear p6; try clear c7; try clear c7b0; try clear c8; try clear c8b0; try clear c9; try clear c9b0; try clear c9b1; try clear hx582_0; try clear hx583_0; try clear hx584_0; try clear hx585_0; try clear p582; try clear p583; try clear p584; try clear p585; try clear q582; try clear q583; try clear q584; try clear q585
         obtain ⟨x7_1, x8_1, rfl, rfl, HA, HK1, HO_0, HK, HB⟩ := hrel
         cases gk with
         | zero => exact absurd HA.out (by simp [nat_step.l0])
         | succ k1 =>
          have H := HA.out
          clear HA
          simp only [nat_step.l0] at H
          have HC12 := Aside0.mk H
          clear H
          go_upto_region 4 with (fail)
          repeat (go_quiet (fail); go_upto_region 4 with (fail))
          go_cut [68] (fun v68 wc => ∃ (kq : Nat) (x68_11 : Bool), v68 = .bool x68_11 ∧ Aside0 (nat_step.j1 kq l0 l1 (l1.length : Int) x7_1 x8_1 x68_11 = some (r1, r2)) ∧ Aside0 (kq ≤ k1) ∧ Aside0 (PQ pre_ post_ pg_ pc_ 42 wc w0.heap.size (fun k_ => (P0_ k_ ∨ w.heap.size ≤ k_)) (.slice (some ad582) l0.length co11) l0) ∧ Aside0 (Kept w wc (fun k_ => P0_ k_)) ∧ Aside0 (Below w0.heap.size w0 wc))
          case first =>
           have H := HC12.out
           clear HC12
           by_cases c13 : x7_1 ≥ 4294967296
           ·rw [if_pos c13] at H
            have c13b0 : decide (4294967296 ≤ x7_1) = true := decide_eq_true c13
            clear c13
            (first | rw [c13b0] | (simp only [i64_w, i32_w]; rw [c13b0]) | skip)
            have H' := Aside0.mk H
            clear H
            go_wp2
            repeat (go_quiet (fail); try go_wp2)
            go_meet
            case rel => exact ⟨_, (true), es, H', ⟨by have := HK1.out; first | omega | exact Nat.le_refl _⟩, ⟨by (with_reducible repeat (first | apply PQ_alloc | apply PQ_drewN | apply PQ_drew)); exact HO_0.out⟩, ⟨by repeat (first | (with_reducible first | exact HK.out | apply Kept.alloc | apply Kept.drewN | apply Kept.drew) | exact HK.out)⟩, ⟨bU HB⟩⟩
           ·rw [if_neg c13] at H
            have c13b0 : decide (4294967296 ≤ x7_1) = false := decide_eq_false c13
            clear c13
            (first | rw [c13b0] | (simp only [i64_w, i32_w]; rw [c13b0]) | skip)
            obtain ⟨ji14, hji14⟩ : ∃ j_ : Int, (wrap64 ((l1.length : Int) - 2)) = j_ := ⟨_, rfl⟩
            (first | rw [hji14] at H | simp only [hji14] at H)
            have hji14w : (IntKind.i64.wrap ((l1.length : Int) - 2)) = ji14 := (i64_w _).trans hji14
            by_cases c15 : 0 ≤ (ji14)
            ·rw [if_pos c15] at H
             have c15b0 := decide_eq_true c15
             clear c15
             by_cases c16 : (ji14) < (l1.length : Int)
             ·rw [if_pos c16] at H
              have c16b0 := decide_eq_true c16
              clear c16
              by_cases c17 : (ji14) < (l0.length : Int)
              ·rw [if_pos c17] at H
               have c17b0 := decide_eq_true c17
               clear c17
               have H' := Aside0.mk H
               clear H
               have p586 : 0 ≤ ((ji14) : Int) := of_decide_eq_true (by first | (with_reducible assumption) | assumption)
               have q586 : (ji14) < (l1.length : Int) := of_decide_eq_true (by first | (with_reducible assumption) | assumption)
               obtain ⟨ad586, e586, hx586_0⟩ := Kd.at_int (Kd.C_kept_now HR1.out HK.out) (ji14) p586 q586
               obtain rfl : ad584 = ad586 := (by injection e586)
               replace p586 := eq_true p586
               replace q586 := eq_true q586
               have p587 : 0 ≤ ((ji14) : Int) := of_decide_eq_true (by first | (with_reducible assumption) | assumption)
               have q587 : (ji14) < (l0.length : Int) := of_decide_eq_true (by first | (with_reducible assumption) | assumption)
               obtain ⟨ad587, e587, hx587_0⟩ := Kd.at_int (PQ_reads' HO_0.out).2.2 (ji14) p587 q587
               obtain rfl : ad582 = ad587 := (by injection e587)
               replace p587 := eq_true p587
               replace q587 := eq_true q587
               go_wp2
               repeat (go_quiet (fail); try go_wp2)
               go_meet
               case rel => exact ⟨_, (decide ((IntKind.u64.wrap (x7_1 * (IntKind.u64.wrap (rd l1 (ji14))))) > (Go.bits .or .u64 (IntKind.u64.wrap (x8_1 * 4294967296)) (IntKind.u64.wrap (rd l0 (ji14)))))), (by first | rfl | (simp; done) | (simp only [← hji14] <;> (first | rfl | simp)) | (simp [*]; done)), H', ⟨by have := HK1.out; first | omega | exact Nat.le_refl _⟩, ⟨by (with_reducible repeat (first | apply PQ_alloc | apply PQ_drewN | apply PQ_drew)); exact HO_0.out⟩, ⟨by repeat (first | (with_reducible first | exact HK.out | apply Kept.alloc | apply Kept.drewN | apply Kept.drew) | exact HK.out)⟩, ⟨bU HB⟩⟩
              ·rw [if_neg c17] at H
               exact absurd H (by simp)
             ·rw [if_neg c16] at H
              exact absurd H (by simp)
            ·rw [if_neg c15] at H
             exact absurd H (by simp)
          case rest =>
           clear HC12
           try clear c1; try clear p2; try clear c3; try clear c3b0; try clear c3b1; try clear c4; try clear c4b0; try clear c4b1; try clear p5; try clear q5; try clear hx5; try clear c6; try clear c6b0; try clear p6; try clear c7; try clear c7b0; try clear c8; try clear c8b0; try clear c9; try clear c9b0; try clear c9b1; try clear c13; try clear c13b0; try clear c15; try clear c15b0; try clear c16; try clear c16b0; try clear c17; try clear c17b0; try clear hx582_0; try clear hx583_0; try clear hx584_0; try clear hx585_0; try clear hx586_0; try clear hx587_0; try clear p2; try clear p5; try clear p582; try clear p583; try clear p584; try clear p585; try clear p586; try clear p587; try clear p6; try clear q5; try clear q582; try clear q583; try clear q584; try clear q585; try clear q586; try clear q587
           obtain ⟨kq, x68_11, rfl, HA, HJ11, HO_0, HK, HB⟩ := hcut
           cases kq with
           | zero => exact absurd HA.out (by simp [nat_step.j1])
           | succ kj11 =>
            have H := HA.out
            clear HA
            simp only [nat_step.j1] at H
            by_cases c18 : x68_11 = true
            ·subst c18
             rw [if_pos rfl] at H
             (first | rw [hji5] at H | simp only [hji5] at H)
             by_cases c19 : 0 ≤ (ji5)
             ·rw [if_pos c19] at H
              have c19b0 := decide_eq_true c19
              clear c19
              by_cases c20 : (ji5) < (l1.length : Int)
              ·rw [if_pos c20] at H
               have c20b0 := decide_eq_true c20
               clear c20
               by_cases c21 : (IntKind.u64.wrap (x8_1 + (IntKind.u64.wrap (rd l1 (ji5))))) ≥ 4294967296
               ·rw [if_pos c21] at H
                have c21b0 : decide (4294967296 ≤ (IntKind.u64.wrap (x8_1 + (IntKind.u64.wrap (rd l1 (ji5)))))) = true := decide_eq_true c21
                clear c21
                have H' := Aside0.mk H
                clear H
                have p588 : 0 ≤ ((ji5) : Int) := of_decide_eq_true (by first | (with_reducible assumption) | assumption)
                have q588 : (ji5) < (l1.length : Int) := of_decide_eq_true (by first | (with_reducible assumption) | assumption)
                obtain ⟨ad588, e588, hx588_0⟩ := Kd.at_int (Kd.C_kept_now HR1.out HK.out) (ji5) p588 q588
                obtain rfl : ad584 = ad588 := (by injection e588)
                replace p588 := eq_true p588
                replace q588 := eq_true q588
                go_wp2
                repeat (go_quiet (fail); try go_wp2)
                go_meet
                case rel => exact ⟨_, (IntKind.u64.wrap (x7_1 - 1)), es, H', ⟨by have := HK1.out; have := HJ11.out; first | omega | exact Nat.le_refl _⟩, ⟨by (with_reducible repeat (first | apply PQ_alloc | apply PQ_drewN | apply PQ_drew)); exact HO_0.out⟩, ⟨by repeat (first | (with_reducible first | exact HK.out | apply Kept.alloc | apply Kept.drewN | apply Kept.drew) | exact HK.out)⟩, ⟨bU HB⟩⟩
               ·rw [if_neg c21] at H
                have c21b0 : decide (4294967296 ≤ (IntKind.u64.wrap (x8_1 + (IntKind.u64.wrap (rd l1 (ji5)))))) = false := decide_eq_false c21
                clear c21
                have H' := Aside0.mk H
                clear H
                have p588 : 0 ≤ ((ji5) : Int) := of_decide_eq_true (by first | (with_reducible assumption) | assumption)
                have q588 : (ji5) < (l1.length : Int) := of_decide_eq_true (by first | (with_reducible assumption) | assumption)
                obtain ⟨ad588, e588, hx588_0⟩ := Kd.at_int (Kd.C_kept_now HR1.out HK.out) (ji5) p588 q588
                obtain rfl : ad584 = ad588 := (by injection e588)
                replace p588 := eq_true p588
                replace q588 := eq_true q588
                go_wp2
                repeat (go_quiet (fail); try go_wp2)
                go_roundg kj11
                case measure => have := HK1.out; have := HJ11.out; omega
                case rel => exact ⟨(IntKind.u64.wrap (x7_1 - 1)), (IntKind.u64.wrap (x8_1 + (IntKind.u64.wrap (rd l1 (ji5))))), es, (by first | rfl | (simp; done) | (simp only [← hji5, ← hji5] <;> (first | rfl | simp)) | (simp [*]; done)), H', ⟨by have := HK1.out; have := HJ11.out; omega⟩, ⟨by (with_reducible repeat (first | apply PQ_alloc | apply PQ_drewN | apply PQ_drew)); exact HO_0.out⟩, ⟨by repeat (first | (with_reducible first | exact HK.out | apply Kept.alloc | apply Kept.drewN | apply Kept.drew) | exact HK.out)⟩, ⟨bU HB⟩⟩
              ·rw [if_neg c20] at H
               exact absurd H (by simp)
             ·rw [if_neg c19] at H
              exact absurd H (by simp)
            ·replace c18 := Bool.eq_false_iff.mpr c18
             subst c18
             rw [if_neg (show ¬ (false = true) by decide)] at H
             have H' := Aside0.mk H
             clear H
             go_wp2
             repeat (go_quiet (fail); try go_wp2)
             go_meet
             case rel => exact ⟨_, (x7_1), es, H', ⟨by have := HK1.out; have := HJ11.out; first | omega | exact Nat.le_refl _⟩, ⟨by (with_reducible repeat (first | apply PQ_alloc | apply PQ_drewN | apply PQ_drew)); exact HO_0.out⟩, ⟨by repeat (first | (with_reducible first | exact HK.out | apply Kept.alloc | apply Kept.drewN | apply Kept.drew) | exact HK.out)⟩, ⟨bU HB⟩⟩
       case rest =>
        clear HC10
        try clear c1; try clear c2; try clear p2; try clear c3; try clear c3b0; try clear c3b1; try clear c4; try clear c4b0; try clear c4b1; try clear p5; try clear q5; try clear hx5; try clear c6; try clear c6b0; try clear p6; try clear c7; try clear c7b0; try clear c8; try clear c8b0; try clear c9; try clear c9b0; try clear c9b1; try clear c13; try clear c13b0; try clear c15; try clear c15b0; try clear c16; try clear c16b0; try clear c17; try clear c17b0; try clear c18; try clear c19; try clear c19b0; try clear c20; try clear c20b0; try clear c21; try clear c21b0; try clear hx582_0; try clear hx583_0; try clear hx584_0; try clear hx585_0; try clear hx586_0; try clear hx587_0; try clear hx588_0; try clear p2; try clear p5; try clear p582; try clear p583; try clear p584; try clear p585; try clear p586; try clear p587; try clear p588; try clear p6; try clear q5; try clear q582; try clear q583; try clear q584; try clear q585; try clear q586; try clear q587; try clear q588
        obtain ⟨kq, x7_9, rfl, HA, HJ9, HO_0, HK, HB⟩ := hcut
        cases kq with
        | zero => exact absurd HA.out (by simp [nat_step.j2])
        | succ kj9 =>
         have H := HA.out
         clear HA
         simp only [nat_step.j2] at H
         have H' := Aside0.mk H
         clear H
         go_wp2
         repeat (go_quiet (fail); try go_wp2)
         go_loopg [9, 10, 83] kj9 (fun kq v9 v10 v83 w' => ∃ (x0_2 : List Int) (x9_2 : Int) (x10_2 : Int) (x83_2 : Int), v9 = .int .u32 x9_2 ∧ v10 = .int .u64 x10_2 ∧ v83 = .int .i64 x83_2 ∧ Aside0 (nat_step.l1 kq x0_2 l1 (l1.length : Int) x7_9 x9_2 x10_2 l1 (l1.length : Int) x83_2 = some (r1, r2)) ∧ Aside0 (kq ≤ kj9) ∧ Aside0 (PQ pre_ post_ pg_ pc_ 42 w' w0.heap.size (fun k_ => (P0_ k_ ∨ w.heap.size ≤ k_)) (.slice (some ad582) l0.length co11) x0_2) ∧ Aside0 (Kept w w' (fun k_ => P0_ k_)) ∧ Aside0 (Below w0.heap.size w0 w'))
         case atStart => exact ⟨(l0), (0), (0), (0), es, es, es, H', ⟨Nat.le_refl _⟩, ⟨by (with_reducible repeat (first | apply PQ_alloc | apply PQ_drewN | apply PQ_drew)); exact HO_0.out⟩, ⟨by repeat (first | (with_reducible first | exact HK.out | apply Kept.alloc | apply Kept.drewN | apply Kept.drew) | exact HK.out)⟩, ⟨bU HB⟩⟩
         case round =>
          clear H'
          try clear c1; try clear c2; try clear p2; try clear c3; try clear c3b0; try clear c3b1; try clear c4; try clear c4b0; try clear c4b1; try clear p5; try clear q5; try clear hx5; try clear c6; try clear c6b0; try clear p6; try clear c7; try clear c7b0; try clear c8; try clear c8b0; try clear c9; try clear c9b0; try clear c9b1; try clear c13; try clear c13b0; try clear c15; try clear c15b0; try clear c16; try clear c16b0; try clear c17; try clear c17b0; try clear c18; try clear c19; try clear c19b0; try clear c20; try clear c20b0; try clear c21; try clear c21b0; try clear hx582_0; try clear hx583_0; try clear hx584_0; try clear hx585_0; try clear hx586_0; try clear hx587_0; try clear hx588_0; try clear p2; try clear p5; try clear p582; try clear p583; try clear p584; try clear p585; try clear p586; try clear p587; try clear p588; try clear p6; try clear q5; try clear q582; try clear q583; try clear q584; try clear q585; try clear q586; try clear q587; try clear q588
          obtain ⟨x0_2, x9_2, x10_2, x83_2, rfl, rfl, rfl, HA, HK2, HO_0, HK, HB⟩ := hrel
          have hl0_2 := (PQ_reads' HO_0.out).1
          rw [hl0_2] at HO_0
          (try simp only [hl0_2])
          cases gk with
          | zero => exact absurd HA.out (by simp [nat_step.l1])
          | succ k2 =>
           have H := HA.out
           clear HA
           simp only [nat_step.l1] at H
           by_cases c22 : x83_2 < (l1.length : Int)
           ·rw [if_pos c22] at H
            have c22b0 := decide_eq_true c22
            clear c22
            (try simp only [hl0_2] at c22b0)
            by_cases c23 : 0 ≤ x83_2
            ·rw [if_pos c23] at H
             have c23b0 := decide_eq_true c23
             clear c23
             by_cases c24 : x83_2 < (l1.length : Int)
             ·rw [if_pos c24] at H
              have c24b0 := decide_eq_true c24
              clear c24
              (try simp only [hl0_2] at c24b0)
              by_cases c25 : x83_2 < (x0_2.length : Int)
              ·rw [if_pos c25] at H
               have c25b0 := decide_eq_true c25
               clear c25
               (try simp only [hl0_2] at c25b0)
               replace H := oc H
               obtain ⟨⟨t591, t592⟩, A26, H⟩ := H
               dsimp only at H
               obtain ⟨y593, hy593⟩ : ∃ y_ : List Int, y_ = (x0_2.set (x83_2 : Int).toNat t591) := ⟨_, rfl⟩
               try rw [← hy593] at H
               have Ny593 := Aside0.mk hy593
               clear hy593
               have H' := Aside0.mk H
               clear H
               have p589 : 0 ≤ (x83_2 : Int) := of_decide_eq_true (by first | (with_reducible assumption) | assumption)
               have q589 : x83_2 < (l1.length : Int) := of_decide_eq_true (by first | (with_reducible assumption) | assumption)
               obtain ⟨ad589, e589, hx589_0⟩ := Kd.at_int (Kd.C_kept_now HR1.out HK.out) x83_2 p589 q589
               obtain rfl : ad584 = ad589 := (by injection e589)
               replace p589 := eq_true p589
               replace q589 := eq_true q589
               have p590 : 0 ≤ (x83_2 : Int) := of_decide_eq_true (by first | (with_reducible assumption) | assumption)
               have q590 : x83_2 < (x0_2.length : Int) := of_decide_eq_true (by first | (with_reducible assumption) | assumption)
               obtain ⟨ad590, e590, hx590_0⟩ := Kd.at_int (PQ_reads' HO_0.out).2.2 x83_2 p590 q590
               obtain rfl : ad582 = ad590 := (by injection e590)
               replace p590 := eq_true p590
               replace q590 := eq_true q590
               go_wp2_with (first | (go_at_call 61; (with_reducible refine (bits_Sub32.calls (rd x0_2 x83_2) ((IntKind.u64.wrap (x10_2 + (IntKind.u64.wrap (x7_9 * (IntKind.u64.wrap (rd l1 x83_2)))))) % 4294967296) x9_2 t591 t592 _ A26.out).mono ?_); rintro e w' ⟨rfl, ⟨nd, rfl⟩⟩; (try first | exact ⟨rfl, _, World.drewN_drewN _ _ _⟩ | exact ⟨rfl, _, Eq.trans (World.drewN_drewN _ _ _) (congrArg (World.drewN _) (Nat.add_assoc _ _ _))⟩); have p27 : 0 ≤ (x83_2 : Int) := of_decide_eq_true (by first | (with_reducible assumption) | assumption); have q27 : (x83_2 : Int) < ((x0_2.length : Int) : Int) := of_decide_eq_true (by first | (with_reducible assumption) | assumption); obtain ⟨go27, oo27, co27, eo27, gb27, gl27, cl27, HG27⟩ := PQ_form HO_0.out (by omega); (first | cases eo27 | (injection eo27 with ea_ en_ ec_; (first | subst ea_ | (injection ea_ with ea_; subst ea_)); subst ec_; clear en_)); have GB27 := Aside0.mk gb27; have GG27 := Aside0.mk HG27; clear gb27 gl27 HG27; have HMgo27 := Aside0.mk (show (P0_ go27 ∨ w.heap.size ≤ go27) from (HO_0.out.1 _ rfl)); (first | simp only [add_at] at hx582_0 | skip); (first | simp only [add_at] at hx583_0 | skip); (first | simp only [add_at] at hx587_0 | skip); (first | simp only [add_at] at hx590_0 | skip); obtain ⟨hx27_0, hf27_0⟩ := PQ_cell 0 HO_0.out (x83_2 : Int) p27 q27; replace p27 := eq_true p27; replace q27 := eq_true q27; obtain ⟨hy28_, hz28_⟩ := PQ_cell 0 HO_0.out (x83_2 : Int) od od; have HP28 := PQ_putg HO_0.out (x83_2 : Int) od (by have h_ : (x83_2 : Int) < ((x0_2.length : Int) : Int) := of_decide_eq_true (by first | (with_reducible assumption) | assumption); first | exact h_ | (have e_ := (PQ_reads' HO_0.out).1; omega) | simpa using h_) t591) | ((with_reducible refine gate_store (t := 42) (p := 107) rfl ?_); (try (rw [drewN_self wr]; generalize hq_ : World.drewN wr _ = wr; have n0_ := Aside0.mk (PQ_at hq_ HO_0.out); have n1_ := Aside0.mk (kept_at hq_ HK.out); have n2_ := Aside0.mk (below_at hq_ HB.out); clear hq_ HO_0 HK HB; have HO_0 := n0_; have HK := n1_; have HB := n2_; clear n0_ n1_ n2_; (try (obtain ⟨hy28_, hz28_⟩ := PQ_cell 0 HO_0.out (x83_2 : Int) od od)); (try (have HP28 := PQ_putg HO_0.out (x83_2 : Int) od (by have h_ : (x83_2 : Int) < ((x0_2.length : Int) : Int) := of_decide_eq_true (by first | (with_reducible assumption) | assumption); first | exact h_ | (have e_ := (PQ_reads' HO_0.out).1; omega) | simpa using h_) t591)))); refine store_event (t := 42) (p := 107) (v := ?vo_w29) (w1 := (wr.setCell ⟨go27, oo27 + (x83_2 : Int).toNat, none⟩ (.int .u32 t591))) ?hg ?ho ?hn ?hr ?_; (case ho => rfl); (case hg => rfl); (case hn => rfl); (case hr => first | (go_simp; done) | (go_simp; rfl)); intro w29 hw; have hg : wr.grownBy w29 (some go27) := (by rw [hw]; exact HP28.2); have hp_ : PQ pre_ post_ pg_ pc_ 42 w29 w0.heap.size (fun k_ => (P0_ k_ ∨ w.heap.size ≤ k_)) (.slice (some ⟨go27, oo27, none⟩) x0_2.length co11) y593 := (by rw [hw, Ny593.out]; exact HP28.1); clear HP28; replace HB := Aside0.mk ((by rw [hw]; exact below_set (HB.out) GB27.out : Below w0.heap.size w0 w29)); replace HK := Aside0.mk (Kept.of_grown (S := (fun k_ => P0_ k_)) hg (by repeat (first | (with_reducible first | exact HK.out | apply Kept.alloc | apply Kept.drewN | apply Kept.drew) | exact HK.out)) (fun k_ e_ => (HO_0.out.1 k_ e_))); replace HO_0 := Aside0.mk (hp_); clear hg hw hp_))
               repeat (go_quiet (first | (go_at_call 61; (with_reducible refine (bits_Sub32.calls (rd x0_2 x83_2) ((IntKind.u64.wrap (x10_2 + (IntKind.u64.wrap (x7_9 * (IntKind.u64.wrap (rd l1 x83_2)))))) % 4294967296) x9_2 t591 t592 _ A26.out).mono ?_); rintro e w' ⟨rfl, ⟨nd, rfl⟩⟩; (try first | exact ⟨rfl, _, World.drewN_drewN _ _ _⟩ | exact ⟨rfl, _, Eq.trans (World.drewN_drewN _ _ _) (congrArg (World.drewN _) (Nat.add_assoc _ _ _))⟩); have p27 : 0 ≤ (x83_2 : Int) := of_decide_eq_true (by first | (with_reducible assumption) | assumption); have q27 : (x83_2 : Int) < ((x0_2.length : Int) : Int) := of_decide_eq_true (by first | (with_reducible assumption) | assumption); obtain ⟨go27, oo27, co27, eo27, gb27, gl27, cl27, HG27⟩ := PQ_form HO_0.out (by omega); (first | cases eo27 | (injection eo27 with ea_ en_ ec_; (first | subst ea_ | (injection ea_ with ea_; subst ea_)); subst ec_; clear en_)); have GB27 := Aside0.mk gb27; have GG27 := Aside0.mk HG27; clear gb27 gl27 HG27; have HMgo27 := Aside0.mk (show (P0_ go27 ∨ w.heap.size ≤ go27) from (HO_0.out.1 _ rfl)); (first | simp only [add_at] at hx582_0 | skip); (first | simp only [add_at] at hx583_0 | skip); (first | simp only [add_at] at hx587_0 | skip); (first | simp only [add_at] at hx590_0 | skip); obtain ⟨hx27_0, hf27_0⟩ := PQ_cell 0 HO_0.out (x83_2 : Int) p27 q27; replace p27 := eq_true p27; replace q27 := eq_true q27; obtain ⟨hy28_, hz28_⟩ := PQ_cell 0 HO_0.out (x83_2 : Int) od od; have HP28 := PQ_putg HO_0.out (x83_2 : Int) od (by have h_ : (x83_2 : Int) < ((x0_2.length : Int) : Int) := of_decide_eq_true (by first | (with_reducible assumption) | assumption); first | exact h_ | (have e_ := (PQ_reads' HO_0.out).1; omega) | simpa using h_) t591) | ((with_reducible refine gate_store (t := 42) (p := 107) rfl ?_); (try (rw [drewN_self wr]; generalize hq_ : World.drewN wr _ = wr; have n0_ := Aside0.mk (PQ_at hq_ HO_0.out); have n1_ := Aside0.mk (kept_at hq_ HK.out); have n2_ := Aside0.mk (below_at hq_ HB.out); clear hq_ HO_0 HK HB; have HO_0 := n0_; have HK := n1_; have HB := n2_; clear n0_ n1_ n2_; (try (obtain ⟨hy28_, hz28_⟩ := PQ_cell 0 HO_0.out (x83_2 : Int) od od)); (try (have HP28 := PQ_putg HO_0.out (x83_2 : Int) od (by have h_ : (x83_2 : Int) < ((x0_2.length : Int) : Int) := of_decide_eq_true (by first | (with_reducible assumption) | assumption); first | exact h_ | (have e_ := (PQ_reads' HO_0.out).1; omega) | simpa using h_) t591)))); refine store_event (t := 42) (p := 107) (v := ?vo_w29) (w1 := (wr.setCell ⟨go27, oo27 + (x83_2 : Int).toNat, none⟩ (.int .u32 t591))) ?hg ?ho ?hn ?hr ?_; (case ho => rfl); (case hg => rfl); (case hn => rfl); (case hr => first | (go_simp; done) | (go_simp; rfl)); intro w29 hw; have hg : wr.grownBy w29 (some go27) := (by rw [hw]; exact HP28.2); have hp_ : PQ pre_ post_ pg_ pc_ 42 w29 w0.heap.size (fun k_ => (P0_ k_ ∨ w.heap.size ≤ k_)) (.slice (some ⟨go27, oo27, none⟩) x0_2.length co11) y593 := (by rw [hw, Ny593.out]; exact HP28.1); clear HP28; replace HB := Aside0.mk ((by rw [hw]; exact below_set (HB.out) GB27.out : Below w0.heap.size w0 w29)); replace HK := Aside0.mk (Kept.of_grown (S := (fun k_ => P0_ k_)) hg (by repeat (first | (with_reducible first | exact HK.out | apply Kept.alloc | apply Kept.drewN | apply Kept.drew) | exact HK.out)) (fun k_ e_ => (HO_0.out.1 k_ e_))); replace HO_0 := Aside0.mk (hp_); clear hg hw hp_)); try go_wp2_with (first | (go_at_call 61; (with_reducible refine (bits_Sub32.calls (rd x0_2 x83_2) ((IntKind.u64.wrap (x10_2 + (IntKind.u64.wrap (x7_9 * (IntKind.u64.wrap (rd l1 x83_2)))))) % 4294967296) x9_2 t591 t592 _ A26.out).mono ?_); rintro e w' ⟨rfl, ⟨nd, rfl⟩⟩; (try first | exact ⟨rfl, _, World.drewN_drewN _ _ _⟩ | exact ⟨rfl, _, Eq.trans (World.drewN_drewN _ _ _) (congrArg (World.drewN _) (Nat.add_assoc _ _ _))⟩); have p27 : 0 ≤ (x83_2 : Int) := of_decide_eq_true (by first | (with_reducible assumption) | assumption); have q27 : (x83_2 : Int) < ((x0_2.length : Int) : Int) := of_decide_eq_true (by first | (with_reducible assumption) | assumption); obtain ⟨go27, oo27, co27, eo27, gb27, gl27, cl27, HG27⟩ := PQ_form HO_0.out (by omega); (first | cases eo27 | (injection eo27 with ea_ en_ ec_; (first | subst ea_ | (injection ea_ with ea_; subst ea_)); subst ec_; clear en_)); have GB27 := Aside0.mk gb27; have GG27 := Aside0.mk HG27; clear gb27 gl27 HG27; have HMgo27 := Aside0.mk (show (P0_ go27 ∨ w.heap.size ≤ go27) from (HO_0.out.1 _ rfl)); (first | simp only [add_at] at hx582_0 | skip); (first | simp only [add_at] at hx583_0 | skip); (first | simp only [add_at] at hx587_0 | skip); (first | simp only [add_at] at hx590_0 | skip); obtain ⟨hx27_0, hf27_0⟩ := PQ_cell 0 HO_0.out (x83_2 : Int) p27 q27; replace p27 := eq_true p27; replace q27 := eq_true q27; obtain ⟨hy28_, hz28_⟩ := PQ_cell 0 HO_0.out (x83_2 : Int) od od; have HP28 := PQ_putg HO_0.out (x83_2 : Int) od (by have h_ : (x83_2 : Int) < ((x0_2.length : Int) : Int) := of_decide_eq_true (by first | (with_reducible assumption) | assumption); first | exact h_ | (have e_ := (PQ_reads' HO_0.out).1; omega) | simpa using h_) t591) | ((with_reducible refine gate_store (t := 42) (p := 107) rfl ?_); (try (rw [drewN_self wr]; generalize hq_ : World.drewN wr _ = wr; have n0_ := Aside0.mk (PQ_at hq_ HO_0.out); have n1_ := Aside0.mk (kept_at hq_ HK.out); have n2_ := Aside0.mk (below_at hq_ HB.out); clear hq_ HO_0 HK HB; have HO_0 := n0_; have HK := n1_; have HB := n2_; clear n0_ n1_ n2_; (try (obtain ⟨hy28_, hz28_⟩ := PQ_cell 0 HO_0.out (x83_2 : Int) od od)); (try (have HP28 := PQ_putg HO_0.out (x83_2 : Int) od (by have h_ : (x83_2 : Int) < ((x0_2.length : Int) : Int) := of_decide_eq_true (by first | (with_reducible assumption) | assumption); first | exact h_ | (have e_ := (PQ_reads' HO_0.out).1; omega) | simpa using h_) t591)))); refine store_event (t := 42) (p := 107) (v := ?vo_w29) (w1 := (wr.setCell ⟨go27, oo27 + (x83_2 : Int).toNat, none⟩ (.int .u32 t591))) ?hg ?ho ?hn ?hr ?_; (case ho => rfl); (case hg => rfl); (case hn => rfl); (case hr => first | (go_simp; done) | (go_simp; rfl)); intro w29 hw; have hg : wr.grownBy w29 (some go27) := (by rw [hw]; exact HP28.2); have hp_ : PQ pre_ post_ pg_ pc_ 42 w29 w0.heap.size (fun k_ => (P0_ k_ ∨ w.heap.size ≤ k_)) (.slice (some ⟨go27, oo27, none⟩) x0_2.length co11) y593 := (by rw [hw, Ny593.out]; exact HP28.1); clear HP28; replace HB := Aside0.mk ((by rw [hw]; exact below_set (HB.out) GB27.out : Below w0.heap.size w0 w29)); replace HK := Aside0.mk (Kept.of_grown (S := (fun k_ => P0_ k_)) hg (by repeat (first | (with_reducible first | exact HK.out | apply Kept.alloc | apply Kept.drewN | apply Kept.drew) | exact HK.out)) (fun k_ e_ => (HO_0.out.1 k_ e_))); replace HO_0 := Aside0.mk (hp_); clear hg hw hp_)))
               (try simp only [← hl0_2])
               go_roundg k2
               case measure => have := HJ9.out; have := HK2.out; omega
               case rel => exact ⟨(y593), (t592), ((IntKind.u64.wrap (x10_2 + (IntKind.u64.wrap (x7_9 * (IntKind.u64.wrap (rd l1 x83_2)))))) / 4294967296), (wrap64 (x83_2 + 1)), es, es, es, H', ⟨by have := HJ9.out; have := HK2.out; omega⟩, ⟨by (try simp only [hl0_2]); (with_reducible repeat (first | apply PQ_alloc | apply PQ_drewN | apply PQ_drew)); exact HO_0.out⟩, ⟨by repeat (first | (with_reducible first | exact HK.out | apply Kept.alloc | apply Kept.drewN | apply Kept.drew) | exact HK.out)⟩, ⟨bU HB⟩⟩
              ·rw [if_neg c25] at H
               exact absurd H (by simp)
             ·rw [if_neg c24] at H
              exact absurd H (by simp)
            ·rw [if_neg c23] at H
             exact absurd H (by simp)
           ·rw [if_neg c22] at H
            have c22b0 := decide_eq_false c22
            clear c22
            (try simp only [hl0_2] at c22b0)
            by_cases c30 : 0 ≤ (l1.length : Int)
            ·rw [if_pos c30] at H
             have c30b0 := decide_eq_true c30
             have c30b1 : decide (0 ≤ l1.length) = true := decide_eq_true (by omega)
             clear c30
             (try simp only [hl0_2] at c30b0 c30b1)
             by_cases c31 : (l1.length : Int) < (x0_2.length : Int)
             ·rw [if_pos c31] at H
              have c31b0 := decide_eq_true c31
              have c31b1 : decide (l1.length < x0_2.length) = true := decide_eq_true (Int.ofNat_lt.mp c31)
              clear c31
              (try simp only [hl0_2] at c31b0 c31b1)
              replace H := oc H
              obtain ⟨⟨t595, t596⟩, A32, H⟩ := H
              dsimp only at H
              replace H := ob H
              obtain ⟨y597, hy597, H⟩ := H
              have Ny597 := Aside0.mk hy597
              clear hy597
              by_cases c34 : t596 = 0
              ·rw [if_pos c34] at H
               have c34b0 : (t596 == 0) = true := beq_iff_eq.mpr c34
               have c34b1 : (t596 != 0) = false := bne_eq_false_iff_eq.mpr c34
               clear c34
               simp only [Option.some.injEq, Prod.mk.injEq] at H
               obtain ⟨rfl, rfl⟩ := H
               have p594 : 0 ≤ ((l1.length : Int) : Int) := of_decide_eq_true (by first | (with_reducible assumption) | assumption)
               have q594 : (l1.length : Int) < (x0_2.length : Int) := of_decide_eq_true (by first | (with_reducible assumption) | assumption)
               obtain ⟨ad594, e594, hx594_0⟩ := Kd.at_int (PQ_reads' HO_0.out).2.2 (l1.length : Int) p594 q594
               obtain rfl : ad582 = ad594 := (by injection e594)
               (try simp only [Go.IntWalk.toNatUp] at hx594_0)
               (try simp only [hl0_2] at p594)
               (try simp only [hl0_2] at q594)
               (try simp only [hl0_2] at hx594_0)
               replace p594 := eq_true p594
               replace q594 := eq_true q594
               go_wp2_with (first | (go_at_call 61; (with_reducible refine (bits_Sub32.calls (rd x0_2 (l1.length : Int)) ((x10_2) % 4294967296) x9_2 t595 t596 _ A32.out).mono ?_); rintro e w' ⟨rfl, ⟨nd, rfl⟩⟩; (try first | exact ⟨rfl, _, World.drewN_drewN _ _ _⟩ | exact ⟨rfl, _, Eq.trans (World.drewN_drewN _ _ _) (congrArg (World.drewN _) (Nat.add_assoc _ _ _))⟩); have p33 : 0 ≤ ((l1.length : Int) : Int) := of_decide_eq_true (by first | (with_reducible assumption) | assumption); have q33 : ((l1.length : Int) : Int) < ((x0_2.length : Int) : Int) := of_decide_eq_true (by first | (with_reducible assumption) | assumption); obtain ⟨go33, oo33, co33, eo33, gb33, gl33, cl33, HG33⟩ := PQ_form HO_0.out (by omega); (first | cases eo33 | (injection eo33 with ea_ en_ ec_; (first | subst ea_ | (injection ea_ with ea_; subst ea_)); subst ec_; clear en_)); have GB33 := Aside0.mk gb33; have GG33 := Aside0.mk HG33; clear gb33 gl33 HG33; have HMgo33 := Aside0.mk (show (P0_ go33 ∨ w.heap.size ≤ go33) from (HO_0.out.1 _ rfl)); (first | simp only [add_at] at hx594_0 | skip); obtain ⟨hx33_0, hf33_0⟩ := PQ_cell 0 HO_0.out ((l1.length : Int) : Int) p33 q33; (try simp only [Int.toNat_natCast] at hx33_0 hf33_0); replace p33 := eq_true p33; replace q33 := eq_true q33; obtain ⟨hy35_, hz35_⟩ := PQ_cell 0 HO_0.out ((l1.length : Int) : Int) od od; (try simp only [Go.IntWalk.toNatUp] at hy35_ hz35_); have HP35 := PQ_putg HO_0.out ((l1.length : Int) : Int) od (by have h_ : ((l1.length : Int) : Int) < ((x0_2.length : Int) : Int) := of_decide_eq_true (by first | (with_reducible assumption) | assumption); first | exact h_ | (have e_ := (PQ_reads' HO_0.out).1; omega) | simpa using h_) t595) | ((with_reducible refine gate_store (t := 42) (p := 124) rfl ?_); (try (rw [drewN_self wr]; generalize hq_ : World.drewN wr _ = wr; have n0_ := Aside0.mk (PQ_at hq_ HO_0.out); have n1_ := Aside0.mk (kept_at hq_ HK.out); have n2_ := Aside0.mk (below_at hq_ HB.out); clear hq_ HO_0 HK HB; have HO_0 := n0_; have HK := n1_; have HB := n2_; clear n0_ n1_ n2_; (try (obtain ⟨hy35_, hz35_⟩ := PQ_cell 0 HO_0.out ((l1.length : Int) : Int) od od)); (try (try simp only [Go.IntWalk.toNatUp] at hy35_ hz35_)); (try (have HP35 := PQ_putg HO_0.out ((l1.length : Int) : Int) od (by have h_ : ((l1.length : Int) : Int) < ((x0_2.length : Int) : Int) := of_decide_eq_true (by first | (with_reducible assumption) | assumption); first | exact h_ | (have e_ := (PQ_reads' HO_0.out).1; omega) | simpa using h_) t595)))); refine store_event (t := 42) (p := 124) (v := ?vo_w36) (w1 := (wr.setCell ⟨go33, oo33 + ((l1.length : Int) : Int).toNat, none⟩ (.int .u32 t595))) ?hg ?ho ?hn ?hr ?_; (case ho => rfl); (case hg => rfl); (case hn => rfl); (case hr => first | (go_simp; done) | (go_simp; rfl)); intro w36 hw; have hg : wr.grownBy w36 (some go33) := (by rw [hw]; exact HP35.2); have hp_ : PQ pre_ post_ pg_ pc_ 42 w36 w0.heap.size (fun k_ => (P0_ k_ ∨ w.heap.size ≤ k_)) (.slice (some ⟨go33, oo33, none⟩) x0_2.length co11) y597 := (by rw [hw, Ny597.out]; exact HP35.1); clear HP35; replace HB := Aside0.mk ((by rw [hw]; exact below_set (HB.out) GB33.out : Below w0.heap.size w0 w36)); replace HK := Aside0.mk (Kept.of_grown (S := (fun k_ => P0_ k_)) hg (by repeat (first | (with_reducible first | exact HK.out | apply Kept.alloc | apply Kept.drewN | apply Kept.drew) | exact HK.out)) (fun k_ e_ => (HO_0.out.1 k_ e_))); replace HO_0 := Aside0.mk (hp_); clear hg hw hp_))
               repeat (go_quiet (first | (go_at_call 61; (with_reducible refine (bits_Sub32.calls (rd x0_2 (l1.length : Int)) ((x10_2) % 4294967296) x9_2 t595 t596 _ A32.out).mono ?_); rintro e w' ⟨rfl, ⟨nd, rfl⟩⟩; (try first | exact ⟨rfl, _, World.drewN_drewN _ _ _⟩ | exact ⟨rfl, _, Eq.trans (World.drewN_drewN _ _ _) (congrArg (World.drewN _) (Nat.add_assoc _ _ _))⟩); have p33 : 0 ≤ ((l1.length : Int) : Int) := of_decide_eq_true (by first | (with_reducible assumption) | assumption); have q33 : ((l1.length : Int) : Int) < ((x0_2.length : Int) : Int) := of_decide_eq_true (by first | (with_reducible assumption) | assumption); obtain ⟨go33, oo33, co33, eo33, gb33, gl33, cl33, HG33⟩ := PQ_form HO_0.out (by omega); (first | cases eo33 | (injection eo33 with ea_ en_ ec_; (first | subst ea_ | (injection ea_ with ea_; subst ea_)); subst ec_; clear en_)); have GB33 := Aside0.mk gb33; have GG33 := Aside0.mk HG33; clear gb33 gl33 HG33; have HMgo33 := Aside0.mk (show (P0_ go33 ∨ w.heap.size ≤ go33) from (HO_0.out.1 _ rfl)); (first | simp only [add_at] at hx594_0 | skip); obtain ⟨hx33_0, hf33_0⟩ := PQ_cell 0 HO_0.out ((l1.length : Int) : Int) p33 q33; (try simp only [Int.toNat_natCast] at hx33_0 hf33_0); replace p33 := eq_true p33; replace q33 := eq_true q33; obtain ⟨hy35_, hz35_⟩ := PQ_cell 0 HO_0.out ((l1.length : Int) : Int) od od; (try simp only [Go.IntWalk.toNatUp] at hy35_ hz35_); have HP35 := PQ_putg HO_0.out ((l1.length : Int) : Int) od (by have h_ : ((l1.length : Int) : Int) < ((x0_2.length : Int) : Int) := of_decide_eq_true (by first | (with_reducible assumption) | assumption); first | exact h_ | (have e_ := (PQ_reads' HO_0.out).1; omega) | simpa using h_) t595) | ((with_reducible refine gate_store (t := 42) (p := 124) rfl ?_); (try (rw [drewN_self wr]; generalize hq_ : World.drewN wr _ = wr; have n0_ := Aside0.mk (PQ_at hq_ HO_0.out); have n1_ := Aside0.mk (kept_at hq_ HK.out); have n2_ := Aside0.mk (below_at hq_ HB.out); clear hq_ HO_0 HK HB; have HO_0 := n0_; have HK := n1_; have HB := n2_; clear n0_ n1_ n2_; (try (obtain ⟨hy35_, hz35_⟩ := PQ_cell 0 HO_0.out ((l1.length : Int) : Int) od od)); (try (try simp only [Go.IntWalk.toNatUp] at hy35_ hz35_)); (try (have HP35 := PQ_putg HO_0.out ((l1.length : Int) : Int) od (by have h_ : ((l1.length : Int) : Int) < ((x0_2.length : Int) : Int) := of_decide_eq_true (by first | (with_reducible assumption) | assumption); first | exact h_ | (have e_ := (PQ_reads' HO_0.out).1; omega) | simpa using h_) t595)))); refine store_event (t := 42) (p := 124) (v := ?vo_w36) (w1 := (wr.setCell ⟨go33, oo33 + ((l1.length : Int) : Int).toNat, none⟩ (.int .u32 t595))) ?hg ?ho ?hn ?hr ?_; (case ho => rfl); (case hg => rfl); (case hn => rfl); (case hr => first | (go_simp; done) | (go_simp; rfl)); intro w36 hw; have hg : wr.grownBy w36 (some go33) := (by rw [hw]; exact HP35.2); have hp_ : PQ pre_ post_ pg_ pc_ 42 w36 w0.heap.size (fun k_ => (P0_ k_ ∨ w.heap.size ≤ k_)) (.slice (some ⟨go33, oo33, none⟩) x0_2.length co11) y597 := (by rw [hw, Ny597.out]; exact HP35.1); clear HP35; replace HB := Aside0.mk ((by rw [hw]; exact below_set (HB.out) GB33.out : Below w0.heap.size w0 w36)); replace HK := Aside0.mk (Kept.of_grown (S := (fun k_ => P0_ k_)) hg (by repeat (first | (with_reducible first | exact HK.out | apply Kept.alloc | apply Kept.drewN | apply Kept.drew) | exact HK.out)) (fun k_ e_ => (HO_0.out.1 k_ e_))); replace HO_0 := Aside0.mk (hp_); clear hg hw hp_)); try go_wp2_with (first | (go_at_call 61; (with_reducible refine (bits_Sub32.calls (rd x0_2 (l1.length : Int)) ((x10_2) % 4294967296) x9_2 t595 t596 _ A32.out).mono ?_); rintro e w' ⟨rfl, ⟨nd, rfl⟩⟩; (try first | exact ⟨rfl, _, World.drewN_drewN _ _ _⟩ | exact ⟨rfl, _, Eq.trans (World.drewN_drewN _ _ _) (congrArg (World.drewN _) (Nat.add_assoc _ _ _))⟩); have p33 : 0 ≤ ((l1.length : Int) : Int) := of_decide_eq_true (by first | (with_reducible assumption) | assumption); have q33 : ((l1.length : Int) : Int) < ((x0_2.length : Int) : Int) := of_decide_eq_true (by first | (with_reducible assumption) | assumption); obtain ⟨go33, oo33, co33, eo33, gb33, gl33, cl33, HG33⟩ := PQ_form HO_0.out (by omega); (first | cases eo33 | (injection eo33 with ea_ en_ ec_; (first | subst ea_ | (injection ea_ with ea_; subst ea_)); subst ec_; clear en_)); have GB33 := Aside0.mk gb33; have GG33 := Aside0.mk HG33; clear gb33 gl33 HG33; have HMgo33 := Aside0.mk (show (P0_ go33 ∨ w.heap.size ≤ go33) from (HO_0.out.1 _ rfl)); (first | simp only [add_at] at hx594_0 | skip); obtain ⟨hx33_0, hf33_0⟩ := PQ_cell 0 HO_0.out ((l1.length : Int) : Int) p33 q33; (try simp only [Int.toNat_natCast] at hx33_0 hf33_0); replace p33 := eq_true p33; replace q33 := eq_true q33; obtain ⟨hy35_, hz35_⟩ := PQ_cell 0 HO_0.out ((l1.length : Int) : Int) od od; (try simp only [Go.IntWalk.toNatUp] at hy35_ hz35_); have HP35 := PQ_putg HO_0.out ((l1.length : Int) : Int) od (by have h_ : ((l1.length : Int) : Int) < ((x0_2.length : Int) : Int) := of_decide_eq_true (by first | (with_reducible assumption) | assumption); first | exact h_ | (have e_ := (PQ_reads' HO_0.out).1; omega) | simpa using h_) t595) | ((with_reducible refine gate_store (t := 42) (p := 124) rfl ?_); (try (rw [drewN_self wr]; generalize hq_ : World.drewN wr _ = wr; have n0_ := Aside0.mk (PQ_at hq_ HO_0.out); have n1_ := Aside0.mk (kept_at hq_ HK.out); have n2_ := Aside0.mk (below_at hq_ HB.out); clear hq_ HO_0 HK HB; have HO_0 := n0_; have HK := n1_; have HB := n2_; clear n0_ n1_ n2_; (try (obtain ⟨hy35_, hz35_⟩ := PQ_cell 0 HO_0.out ((l1.length : Int) : Int) od od)); (try (try simp only [Go.IntWalk.toNatUp] at hy35_ hz35_)); (try (have HP35 := PQ_putg HO_0.out ((l1.length : Int) : Int) od (by have h_ : ((l1.length : Int) : Int) < ((x0_2.length : Int) : Int) := of_decide_eq_true (by first | (with_reducible assumption) | assumption); first | exact h_ | (have e_ := (PQ_reads' HO_0.out).1; omega) | simpa using h_) t595)))); refine store_event (t := 42) (p := 124) (v := ?vo_w36) (w1 := (wr.setCell ⟨go33, oo33 + ((l1.length : Int) : Int).toNat, none⟩ (.int .u32 t595))) ?hg ?ho ?hn ?hr ?_; (case ho => rfl); (case hg => rfl); (case hn => rfl); (case hr => first | (go_simp; done) | (go_simp; rfl)); intro w36 hw; have hg : wr.grownBy w36 (some go33) := (by rw [hw]; exact HP35.2); have hp_ : PQ pre_ post_ pg_ pc_ 42 w36 w0.heap.size (fun k_ => (P0_ k_ ∨ w.heap.size ≤ k_)) (.slice (some ⟨go33, oo33, none⟩) x0_2.length co11) y597 := (by rw [hw, Ny597.out]; exact HP35.1); clear HP35; replace HB := Aside0.mk ((by rw [hw]; exact below_set (HB.out) GB33.out : Below w0.heap.size w0 w36)); replace HK := Aside0.mk (Kept.of_grown (S := (fun k_ => P0_ k_)) hg (by repeat (first | (with_reducible first | exact HK.out | apply Kept.alloc | apply Kept.drewN | apply Kept.drew) | exact HK.out)) (fun k_ e_ => (HO_0.out.1 k_ e_))); replace HO_0 := Aside0.mk (hp_); clear hg hw hp_)))
               go_ret
               exact ⟨by first | rfl | (simp [errW_none, errW_some] <;> rfl) | (simp only [← hji5]; first | rfl | (simp [errW_none, errW_some] <;> rfl)) | (simp [*, errW_none, errW_some] <;> rfl), (by first | exact (by (with_reducible repeat (first | apply PQ_alloc | apply PQ_drewN | apply PQ_drew)); exact HO_0.out) | (simp only [hl0_2]; exact (by (with_reducible repeat (first | apply PQ_alloc | apply PQ_drewN | apply PQ_drew)); exact HO_0.out))), bU HB, by repeat (first | (with_reducible first | exact HK.out | apply Kept.alloc | apply Kept.drewN | apply Kept.drew) | exact HK.out)⟩
              ·rw [if_neg c34] at H
               have c34b0 : (t596 == 0) = false := beq_eq_false_iff_ne.mpr c34
               have c34b1 : (t596 != 0) = true := bne_iff_ne.mpr c34
               have H' := Aside0.mk H
               clear H
               have p594 : 0 ≤ ((l1.length : Int) : Int) := of_decide_eq_true (by first | (with_reducible assumption) | assumption)
               have q594 : (l1.length : Int) < (x0_2.length : Int) := of_decide_eq_true (by first | (with_reducible assumption) | assumption)
               obtain ⟨ad594, e594, hx594_0⟩ := Kd.at_int (PQ_reads' HO_0.out).2.2 (l1.length : Int) p594 q594
               obtain rfl : ad582 = ad594 := (by injection e594)
               (try simp only [Go.IntWalk.toNatUp] at hx594_0)
               (try simp only [hl0_2] at p594)
               (try simp only [hl0_2] at q594)
               (try simp only [hl0_2] at hx594_0)
               replace p594 := eq_true p594
               replace q594 := eq_true q594
               go_wp2_with (first | (go_at_call 61; (with_reducible refine (bits_Sub32.calls (rd x0_2 (l1.length : Int)) ((x10_2) % 4294967296) x9_2 t595 t596 _ A32.out).mono ?_); rintro e w' ⟨rfl, ⟨nd, rfl⟩⟩; (try first | exact ⟨rfl, _, World.drewN_drewN _ _ _⟩ | exact ⟨rfl, _, Eq.trans (World.drewN_drewN _ _ _) (congrArg (World.drewN _) (Nat.add_assoc _ _ _))⟩); have p33 : 0 ≤ ((l1.length : Int) : Int) := of_decide_eq_true (by first | (with_reducible assumption) | assumption); have q33 : ((l1.length : Int) : Int) < ((x0_2.length : Int) : Int) := of_decide_eq_true (by first | (with_reducible assumption) | assumption); obtain ⟨go33, oo33, co33, eo33, gb33, gl33, cl33, HG33⟩ := PQ_form HO_0.out (by omega); (first | cases eo33 | (injection eo33 with ea_ en_ ec_; (first | subst ea_ | (injection ea_ with ea_; subst ea_)); subst ec_; clear en_)); have GB33 := Aside0.mk gb33; have GG33 := Aside0.mk HG33; clear gb33 gl33 HG33; have HMgo33 := Aside0.mk (show (P0_ go33 ∨ w.heap.size ≤ go33) from (HO_0.out.1 _ rfl)); (first | simp only [add_at] at hx594_0 | skip); obtain ⟨hx33_0, hf33_0⟩ := PQ_cell 0 HO_0.out ((l1.length : Int) : Int) p33 q33; (try simp only [Int.toNat_natCast] at hx33_0 hf33_0); replace p33 := eq_true p33; replace q33 := eq_true q33; obtain ⟨hy37_, hz37_⟩ := PQ_cell 0 HO_0.out ((l1.length : Int) : Int) od od; (try simp only [Go.IntWalk.toNatUp] at hy37_ hz37_); have HP37 := PQ_putg HO_0.out ((l1.length : Int) : Int) od (by have h_ : ((l1.length : Int) : Int) < ((x0_2.length : Int) : Int) := of_decide_eq_true (by first | (with_reducible assumption) | assumption); first | exact h_ | (have e_ := (PQ_reads' HO_0.out).1; omega) | simpa using h_) t595) | ((with_reducible refine gate_store (t := 42) (p := 124) rfl ?_); (try (rw [drewN_self wr]; generalize hq_ : World.drewN wr _ = wr; have n0_ := Aside0.mk (PQ_at hq_ HO_0.out); have n1_ := Aside0.mk (kept_at hq_ HK.out); have n2_ := Aside0.mk (below_at hq_ HB.out); clear hq_ HO_0 HK HB; have HO_0 := n0_; have HK := n1_; have HB := n2_; clear n0_ n1_ n2_; (try (obtain ⟨hy37_, hz37_⟩ := PQ_cell 0 HO_0.out ((l1.length : Int) : Int) od od)); (try (try simp only [Go.IntWalk.toNatUp] at hy37_ hz37_)); (try (have HP37 := PQ_putg HO_0.out ((l1.length : Int) : Int) od (by have h_ : ((l1.length : Int) : Int) < ((x0_2.length : Int) : Int) := of_decide_eq_true (by first | (with_reducible assumption) | assumption); first | exact h_ | (have e_ := (PQ_reads' HO_0.out).1; omega) | simpa using h_) t595)))); refine store_event (t := 42) (p := 124) (v := ?vo_w38) (w1 := (wr.setCell ⟨go33, oo33 + ((l1.length : Int) : Int).toNat, none⟩ (.int .u32 t595))) ?hg ?ho ?hn ?hr ?_; (case ho => rfl); (case hg => rfl); (case hn => rfl); (case hr => first | (go_simp; done) | (go_simp; rfl)); intro w38 hw; have hg : wr.grownBy w38 (some go33) := (by rw [hw]; exact HP37.2); have hp_ : PQ pre_ post_ pg_ pc_ 42 w38 w0.heap.size (fun k_ => (P0_ k_ ∨ w.heap.size ≤ k_)) (.slice (some ⟨go33, oo33, none⟩) x0_2.length co11) y597 := (by rw [hw, Ny597.out]; exact HP37.1); clear HP37; replace HB := Aside0.mk ((by rw [hw]; exact below_set (HB.out) GB33.out : Below w0.heap.size w0 w38)); replace HK := Aside0.mk (Kept.of_grown (S := (fun k_ => P0_ k_)) hg (by repeat (first | (with_reducible first | exact HK.out | apply Kept.alloc | apply Kept.drewN | apply Kept.drew) | exact HK.out)) (fun k_ e_ => (HO_0.out.1 k_ e_))); replace HO_0 := Aside0.mk (hp_); clear hg hw hp_))
               repeat (go_quiet (first | (go_at_call 61; (with_reducible refine (bits_Sub32.calls (rd x0_2 (l1.length : Int)) ((x10_2) % 4294967296) x9_2 t595 t596 _ A32.out).mono ?_); rintro e w' ⟨rfl, ⟨nd, rfl⟩⟩; (try first | exact ⟨rfl, _, World.drewN_drewN _ _ _⟩ | exact ⟨rfl, _, Eq.trans (World.drewN_drewN _ _ _) (congrArg (World.drewN _) (Nat.add_assoc _ _ _))⟩); have p33 : 0 ≤ ((l1.length : Int) : Int) := of_decide_eq_true (by first | (with_reducible assumption) | assumption); have q33 : ((l1.length : Int) : Int) < ((x0_2.length : Int) : Int) := of_decide_eq_true (by first | (with_reducible assumption) | assumption); obtain ⟨go33, oo33, co33, eo33, gb33, gl33, cl33, HG33⟩ := PQ_form HO_0.out (by omega); (first | cases eo33 | (injection eo33 with ea_ en_ ec_; (first | subst ea_ | (injection ea_ with ea_; subst ea_)); subst ec_; clear en_)); have GB33 := Aside0.mk gb33; have GG33 := Aside0.mk HG33; clear gb33 gl33 HG33; have HMgo33 := Aside0.mk (show (P0_ go33 ∨ w.heap.size ≤ go33) from (HO_0.out.1 _ rfl)); (first | simp only [add_at] at hx594_0 | skip); obtain ⟨hx33_0, hf33_0⟩ := PQ_cell 0 HO_0.out ((l1.length : Int) : Int) p33 q33; (try simp only [Int.toNat_natCast] at hx33_0 hf33_0); replace p33 := eq_true p33; replace q33 := eq_true q33; obtain ⟨hy37_, hz37_⟩ := PQ_cell 0 HO_0.out ((l1.length : Int) : Int) od od; (try simp only [Go.IntWalk.toNatUp] at hy37_ hz37_); have HP37 := PQ_putg HO_0.out ((l1.length : Int) : Int) od (by have h_ : ((l1.length : Int) : Int) < ((x0_2.length : Int) : Int) := of_decide_eq_true (by first | (with_reducible assumption) | assumption); first | exact h_ | (have e_ := (PQ_reads' HO_0.out).1; omega) | simpa using h_) t595) | ((with_reducible refine gate_store (t := 42) (p := 124) rfl ?_); (try (rw [drewN_self wr]; generalize hq_ : World.drewN wr _ = wr; have n0_ := Aside0.mk (PQ_at hq_ HO_0.out); have n1_ := Aside0.mk (kept_at hq_ HK.out); have n2_ := Aside0.mk (below_at hq_ HB.out); clear hq_ HO_0 HK HB; have HO_0 := n0_; have HK := n1_; have HB := n2_; clear n0_ n1_ n2_; (try (obtain ⟨hy37_, hz37_⟩ := PQ_cell 0 HO_0.out ((l1.length : Int) : Int) od od)); (try (try simp only [Go.IntWalk.toNatUp] at hy37_ hz37_)); (try (have HP37 := PQ_putg HO_0.out ((l1.length : Int) : Int) od (by have h_ : ((l1.length : Int) : Int) < ((x0_2.length : Int) : Int) := of_decide_eq_true (by first | (with_reducible assumption) | assumption); first | exact h_ | (have e_ := (PQ_reads' HO_0.out).1; omega) | simpa using h_) t595)))); refine store_event (t := 42) (p := 124) (v := ?vo_w38) (w1 := (wr.setCell ⟨go33, oo33 + ((l1.length : Int) : Int).toNat, none⟩ (.int .u32 t595))) ?hg ?ho ?hn ?hr ?_; (case ho => rfl); (case hg => rfl); (case hn => rfl); (case hr => first | (go_simp; done) | (go_simp; rfl)); intro w38 hw; have hg : wr.grownBy w38 (some go33) := (by rw [hw]; exact HP37.2); have hp_ : PQ pre_ post_ pg_ pc_ 42 w38 w0.heap.size (fun k_ => (P0_ k_ ∨ w.heap.size ≤ k_)) (.slice (some ⟨go33, oo33, none⟩) x0_2.length co11) y597 := (by rw [hw, Ny597.out]; exact HP37.1); clear HP37; replace HB := Aside0.mk ((by rw [hw]; exact below_set (HB.out) GB33.out : Below w0.heap.size w0 w38)); replace HK := Aside0.mk (Kept.of_grown (S := (fun k_ => P0_ k_)) hg (by repeat (first | (with_reducible first | exact HK.out | apply Kept.alloc | apply Kept.drewN | apply Kept.drew) | exact HK.out)) (fun k_ e_ => (HO_0.out.1 k_ e_))); replace HO_0 := Aside0.mk (hp_); clear hg hw hp_)); try go_wp2_with (first | (go_at_call 61; (with_reducible refine (bits_Sub32.calls (rd x0_2 (l1.length : Int)) ((x10_2) % 4294967296) x9_2 t595 t596 _ A32.out).mono ?_); rintro e w' ⟨rfl, ⟨nd, rfl⟩⟩; (try first | exact ⟨rfl, _, World.drewN_drewN _ _ _⟩ | exact ⟨rfl, _, Eq.trans (World.drewN_drewN _ _ _) (congrArg (World.drewN _) (Nat.add_assoc _ _ _))⟩); have p33 : 0 ≤ ((l1.length : Int) : Int) := of_decide_eq_true (by first | (with_reducible assumption) | assumption); have q33 : ((l1.length : Int) : Int) < ((x0_2.length : Int) : Int) := of_decide_eq_true (by first | (with_reducible assumption) | assumption); obtain ⟨go33, oo33, co33, eo33, gb33, gl33, cl33, HG33⟩ := PQ_form HO_0.out (by omega); (first | cases eo33 | (injection eo33 with ea_ en_ ec_; (first | subst ea_ | (injection ea_ with ea_; subst ea_)); subst ec_; clear en_)); have GB33 := Aside0.mk gb33; have GG33 := Aside0.mk HG33; clear gb33 gl33 HG33; have HMgo33 := Aside0.mk (show (P0_ go33 ∨ w.heap.size ≤ go33) from (HO_0.out.1 _ rfl)); (first | simp only [add_at] at hx594_0 | skip); obtain ⟨hx33_0, hf33_0⟩ := PQ_cell 0 HO_0.out ((l1.length : Int) : Int) p33 q33; (try simp only [Int.toNat_natCast] at hx33_0 hf33_0); replace p33 := eq_true p33; replace q33 := eq_true q33; obtain ⟨hy37_, hz37_⟩ := PQ_cell 0 HO_0.out ((l1.length : Int) : Int) od od; (try simp only [Go.IntWalk.toNatUp] at hy37_ hz37_); have HP37 := PQ_putg HO_0.out ((l1.length : Int) : Int) od (by have h_ : ((l1.length : Int) : Int) < ((x0_2.length : Int) : Int) := of_decide_eq_true (by first | (with_reducible assumption) | assumption); first | exact h_ | (have e_ := (PQ_reads' HO_0.out).1; omega) | simpa using h_) t595) | ((with_reducible refine gate_store (t := 42) (p := 124) rfl ?_); (try (rw [drewN_self wr]; generalize hq_ : World.drewN wr _ = wr; have n0_ := Aside0.mk (PQ_at hq_ HO_0.out); have n1_ := Aside0.mk (kept_at hq_ HK.out); have n2_ := Aside0.mk (below_at hq_ HB.out); clear hq_ HO_0 HK HB; have HO_0 := n0_; have HK := n1_; have HB := n2_; clear n0_ n1_ n2_; (try (obtain ⟨hy37_, hz37_⟩ := PQ_cell 0 HO_0.out ((l1.length : Int) : Int) od od)); (try (try simp only [Go.IntWalk.toNatUp] at hy37_ hz37_)); (try (have HP37 := PQ_putg HO_0.out ((l1.length : Int) : Int) od (by have h_ : ((l1.length : Int) : Int) < ((x0_2.length : Int) : Int) := of_decide_eq_true (by first | (with_reducible assumption) | assumption); first | exact h_ | (have e_ := (PQ_reads' HO_0.out).1; omega) | simpa using h_) t595)))); refine store_event (t := 42) (p := 124) (v := ?vo_w38) (w1 := (wr.setCell ⟨go33, oo33 + ((l1.length : Int) : Int).toNat, none⟩ (.int .u32 t595))) ?hg ?ho ?hn ?hr ?_; (case ho => rfl); (case hg => rfl); (case hn => rfl); (case hr => first | (go_simp; done) | (go_simp; rfl)); intro w38 hw; have hg : wr.grownBy w38 (some go33) := (by rw [hw]; exact HP37.2); have hp_ : PQ pre_ post_ pg_ pc_ 42 w38 w0.heap.size (fun k_ => (P0_ k_ ∨ w.heap.size ≤ k_)) (.slice (some ⟨go33, oo33, none⟩) x0_2.length co11) y597 := (by rw [hw, Ny597.out]; exact HP37.1); clear HP37; replace HB := Aside0.mk ((by rw [hw]; exact below_set (HB.out) GB33.out : Below w0.heap.size w0 w38)); replace HK := Aside0.mk (Kept.of_grown (S := (fun k_ => P0_ k_)) hg (by repeat (first | (with_reducible first | exact HK.out | apply Kept.alloc | apply Kept.drewN | apply Kept.drew) | exact HK.out)) (fun k_ e_ => (HO_0.out.1 k_ e_))); replace HO_0 := Aside0.mk (hp_); clear hg hw hp_)))
               (try generalize ad582.add (l1.length : Int).toNat = pa594_)
               (try generalize ad582.add l1.length = pa594_)
               go_loopg [13, 131] k2 (fun kq v13 v131 w' => ∃ (x0_3 : List Int) (x13_3 : Int) (x131_3 : Int), v13 = .int .u32 x13_3 ∧ v131 = .int .i64 x131_3 ∧ Aside0 (nat_step.l2 kq x0_3 (l1.length : Int) x7_9 x13_3 l1 (l1.length : Int) x131_3 = some (r1, r2)) ∧ Aside0 (kq ≤ k2) ∧ Aside0 (PQ pre_ post_ pg_ pc_ 42 w' w0.heap.size (fun k_ => (P0_ k_ ∨ w.heap.size ≤ k_)) (.slice (some ⟨go33, oo33, none⟩) x0_2.length co11) x0_3) ∧ Aside0 (Kept w w' (fun k_ => P0_ k_)) ∧ Aside0 (Below w0.heap.size w0 w'))
               case atStart => exact ⟨(y597), (0), (0), es, es, H', ⟨Nat.le_refl _⟩, ⟨by (try simp only [hl0_2]); (with_reducible repeat (first | apply PQ_alloc | apply PQ_drewN | apply PQ_drew)); exact HO_0.out⟩, ⟨by repeat (first | (with_reducible first | exact HK.out | apply Kept.alloc | apply Kept.drewN | apply Kept.drew) | exact HK.out)⟩, ⟨bU HB⟩⟩
               case round =>
                clear H'
                try clear c1; try clear c2; try clear p2; try clear q2; try clear hx2; try clear hf2; try clear c3; try clear c3b0; try clear c3b1; try clear p3; try clear q3; try clear hx3; try clear hf3; try clear c4; try clear c4b0; try clear c4b1; try clear p5; try clear q5; try clear hx5; try clear c6; try clear c6b0; try clear p6; try clear c7; try clear c7b0; try clear c8; try clear c8b0; try clear c9; try clear c9b0; try clear c9b1; try clear c13; try clear c13b0; try clear c15; try clear c15b0; try clear c16; try clear c16b0; try clear c17; try clear c17b0; try clear c18; try clear c19; try clear c19b0; try clear c20; try clear c20b0; try clear c21; try clear c21b0; try clear c22; try clear c22b0; try clear c23; try clear c23b0; try clear c24; try clear c24b0; try clear c25; try clear c25b0; try clear p27; try clear q27; try clear hx27; try clear hf27; try clear c30; try clear c30b0; try clear c30b1; try clear c31; try clear c31b0; try clear c31b1; try clear p33; try clear q33; try clear hx33; try clear hf33; try clear c34; try clear c34b0; try clear c34b1; try clear hx27_0; try clear hx33_0; try clear hx582_0; try clear hx583_0; try clear hx584_0; try clear hx585_0; try clear hx586_0; try clear hx587_0; try clear hx588_0; try clear hx589_0; try clear hx590_0; try clear hx594_0; try clear p2; try clear p27; try clear p33; try clear p5; try clear p582; try clear p583; try clear p584; try clear p585; try clear p586; try clear p587; try clear p588; try clear p589; try clear p590; try clear p594; try clear p6; try clear q27; try clear q33; try clear q5; try clear q582; try clear q583; try clear q584; try clear q585; try clear q586; try clear q587; try clear q588; try clear q589; try clear q590; try clear q594
                obtain ⟨x0_3, x13_3, x131_3, rfl, rfl, HA, HK3, HO_0, HK, HB⟩ := hrel
                have hl0_3 := (PQ_reads' HO_0.out).1
                rw [hl0_3] at HO_0
                (try simp only [hl0_3])
                cases gk with
                | zero => exact absurd HA.out (by simp [nat_step.l2])
                | succ k3 =>
                 have H := HA.out
                 clear HA
                 simp only [nat_step.l2] at H
                 by_cases c39 : x131_3 < (l1.length : Int)
                 ·rw [if_pos c39] at H
                  have c39b0 := decide_eq_true c39
                  clear c39
                  (try simp only [hl0_2, hl0_3] at c39b0)
                  by_cases c40 : 0 ≤ x131_3
                  ·rw [if_pos c40] at H
                   have c40b0 := decide_eq_true c40
                   clear c40
                   by_cases c41 : x131_3 < (l1.length : Int)
                   ·rw [if_pos c41] at H
                    have c41b0 := decide_eq_true c41
                    clear c41
                    (try simp only [hl0_2, hl0_3] at c41b0)
                    by_cases c42 : x131_3 < (x0_3.length : Int)
                    ·rw [if_pos c42] at H
                     have c42b0 := decide_eq_true c42
                     clear c42
                     (try simp only [hl0_2, hl0_3] at c42b0)
                     replace H := oc H
                     obtain ⟨⟨t600, t601⟩, A43, H⟩ := H
                     dsimp only at H
                     obtain ⟨y602, hy602⟩ : ∃ y_ : List Int, y_ = (x0_3.set (x131_3 : Int).toNat t600) := ⟨_, rfl⟩
                     try rw [← hy602] at H
                     have Ny602 := Aside0.mk hy602
                     clear hy602
                     have H' := Aside0.mk H
                     clear H
                     have p598 : 0 ≤ (x131_3 : Int) := of_decide_eq_true (by first | (with_reducible assumption) | assumption)
                     have q598 : x131_3 < (l1.length : Int) := of_decide_eq_true (by first | (with_reducible assumption) | assumption)
                     obtain ⟨ad598, e598, hx598_0⟩ := Kd.at_int (Kd.C_kept_now HR1.out HK.out) x131_3 p598 q598
                     obtain rfl : ad584 = ad598 := (by injection e598)
                     replace p598 := eq_true p598
                     replace q598 := eq_true q598
                     have p599 : 0 ≤ (x131_3 : Int) := of_decide_eq_true (by first | (with_reducible assumption) | assumption)
                     have q599 : x131_3 < (x0_3.length : Int) := of_decide_eq_true (by first | (with_reducible assumption) | assumption)
                     obtain ⟨ad599, e599, hx599_0⟩ := Kd.at_int (PQ_reads' HO_0.out).2.2 x131_3 p599 q599
                     obtain rfl : (⟨go33, oo33, none⟩ : Addr) = ad599 := (by injection e599)
                     (first | simp only [add_plain] at hx599_0 | simp only [add_at] at hx599_0 | simp only [Addr.add, Nat.zero_add] at hx599_0 | skip)
                     replace p599 := eq_true p599
                     replace q599 := eq_true q599
                     go_wp2_with (first | (go_at_call 45; (with_reducible refine (bits_Add32.calls (rd x0_3 x131_3) (rd l1 x131_3) x13_3 t600 t601 _ A43.out).mono ?_); rintro e w' ⟨rfl, ⟨nd, rfl⟩⟩; (try first | exact ⟨rfl, _, World.drewN_drewN _ _ _⟩ | exact ⟨rfl, _, Eq.trans (World.drewN_drewN _ _ _) (congrArg (World.drewN _) (Nat.add_assoc _ _ _))⟩); have p44 : 0 ≤ (x131_3 : Int) := of_decide_eq_true (by first | (with_reducible assumption) | assumption); have q44 : (x131_3 : Int) < ((x0_3.length : Int) : Int) := of_decide_eq_true (by first | (with_reducible assumption) | assumption); obtain ⟨hx44_0, hf44_0⟩ := PQ_cell 0 HO_0.out (x131_3 : Int) p44 q44; replace p44 := eq_true p44; replace q44 := eq_true q44; obtain ⟨hy45_, hz45_⟩ := PQ_cell 0 HO_0.out (x131_3 : Int) od od; have HP45 := PQ_putg HO_0.out (x131_3 : Int) od (by have h_ : (x131_3 : Int) < ((x0_3.length : Int) : Int) := of_decide_eq_true (by first | (with_reducible assumption) | assumption); first | exact h_ | (have e_ := (PQ_reads' HO_0.out).1; omega) | simpa using h_) t600) | ((with_reducible refine gate_store (t := 42) (p := 148) rfl ?_); (try (rw [drewN_self wr]; generalize hq_ : World.drewN wr _ = wr; have n0_ := Aside0.mk (PQ_at hq_ HO_0.out); have n1_ := Aside0.mk (kept_at hq_ HK.out); have n2_ := Aside0.mk (below_at hq_ HB.out); clear hq_ HO_0 HK HB; have HO_0 := n0_; have HK := n1_; have HB := n2_; clear n0_ n1_ n2_; (try (obtain ⟨hy45_, hz45_⟩ := PQ_cell 0 HO_0.out (x131_3 : Int) od od)); (try (have HP45 := PQ_putg HO_0.out (x131_3 : Int) od (by have h_ : (x131_3 : Int) < ((x0_3.length : Int) : Int) := of_decide_eq_true (by first | (with_reducible assumption) | assumption); first | exact h_ | (have e_ := (PQ_reads' HO_0.out).1; omega) | simpa using h_) t600)))); refine store_event (t := 42) (p := 148) (v := ?vo_w46) (w1 := (wr.setCell ⟨go33, oo33 + (x131_3 : Int).toNat, none⟩ (.int .u32 t600))) ?hg ?ho ?hn ?hr ?_; (case ho => rfl); (case hg => rfl); (case hn => rfl); (case hr => first | (go_simp; done) | (go_simp; rfl)); intro w46 hw; have hg : wr.grownBy w46 (some go33) := (by rw [hw]; exact HP45.2); have hp_ : PQ pre_ post_ pg_ pc_ 42 w46 w0.heap.size (fun k_ => (P0_ k_ ∨ w.heap.size ≤ k_)) (.slice (some ⟨go33, oo33, none⟩) x0_3.length co11) y602 := (by rw [hw, Ny602.out]; exact HP45.1); clear HP45; replace HB := Aside0.mk ((by rw [hw]; exact below_set (HB.out) GB33.out : Below w0.heap.size w0 w46)); replace HK := Aside0.mk (Kept.of_grown (S := (fun k_ => P0_ k_)) hg (by repeat (first | (with_reducible first | exact HK.out | apply Kept.alloc | apply Kept.drewN | apply Kept.drew) | exact HK.out)) (fun k_ e_ => (HO_0.out.1 k_ e_))); replace HO_0 := Aside0.mk (hp_); clear hg hw hp_))
                     repeat (go_quiet (first | (go_at_call 45; (with_reducible refine (bits_Add32.calls (rd x0_3 x131_3) (rd l1 x131_3) x13_3 t600 t601 _ A43.out).mono ?_); rintro e w' ⟨rfl, ⟨nd, rfl⟩⟩; (try first | exact ⟨rfl, _, World.drewN_drewN _ _ _⟩ | exact ⟨rfl, _, Eq.trans (World.drewN_drewN _ _ _) (congrArg (World.drewN _) (Nat.add_assoc _ _ _))⟩); have p44 : 0 ≤ (x131_3 : Int) := of_decide_eq_true (by first | (with_reducible assumption) | assumption); have q44 : (x131_3 : Int) < ((x0_3.length : Int) : Int) := of_decide_eq_true (by first | (with_reducible assumption) | assumption); obtain ⟨hx44_0, hf44_0⟩ := PQ_cell 0 HO_0.out (x131_3 : Int) p44 q44; replace p44 := eq_true p44; replace q44 := eq_true q44; obtain ⟨hy45_, hz45_⟩ := PQ_cell 0 HO_0.out (x131_3 : Int) od od; have HP45 := PQ_putg HO_0.out (x131_3 : Int) od (by have h_ : (x131_3 : Int) < ((x0_3.length : Int) : Int) := of_decide_eq_true (by first | (with_reducible assumption) | assumption); first | exact h_ | (have e_ := (PQ_reads' HO_0.out).1; omega) | simpa using h_) t600) | ((with_reducible refine gate_store (t := 42) (p := 148) rfl ?_); (try (rw [drewN_self wr]; generalize hq_ : World.drewN wr _ = wr; have n0_ := Aside0.mk (PQ_at hq_ HO_0.out); have n1_ := Aside0.mk (kept_at hq_ HK.out); have n2_ := Aside0.mk (below_at hq_ HB.out); clear hq_ HO_0 HK HB; have HO_0 := n0_; have HK := n1_; have HB := n2_; clear n0_ n1_ n2_; (try (obtain ⟨hy45_, hz45_⟩ := PQ_cell 0 HO_0.out (x131_3 : Int) od od)); (try (have HP45 := PQ_putg HO_0.out (x131_3 : Int) od (by have h_ : (x131_3 : Int) < ((x0_3.length : Int) : Int) := of_decide_eq_true (by first | (with_reducible assumption) | assumption); first | exact h_ | (have e_ := (PQ_reads' HO_0.out).1; omega) | simpa using h_) t600)))); refine store_event (t := 42) (p := 148) (v := ?vo_w46) (w1 := (wr.setCell ⟨go33, oo33 + (x131_3 : Int).toNat, none⟩ (.int .u32 t600))) ?hg ?ho ?hn ?hr ?_; (case ho => rfl); (case hg => rfl); (case hn => rfl); (case hr => first | (go_simp; done) | (go_simp; rfl)); intro w46 hw; have hg : wr.grownBy w46 (some go33) := (by rw [hw]; exact HP45.2); have hp_ : PQ pre_ post_ pg_ pc_ 42 w46 w0.heap.size (fun k_ => (P0_ k_ ∨ w.heap.size ≤ k_)) (.slice (some ⟨go33, oo33, none⟩) x0_3.length co11) y602 := (by rw [hw, Ny602.out]; exact HP45.1); clear HP45; replace HB := Aside0.mk ((by rw [hw]; exact below_set (HB.out) GB33.out : Below w0.heap.size w0 w46)); replace HK := Aside0.mk (Kept.of_grown (S := (fun k_ => P0_ k_)) hg (by repeat (first | (with_reducible first | exact HK.out | apply Kept.alloc | apply Kept.drewN | apply Kept.drew) | exact HK.out)) (fun k_ e_ => (HO_0.out.1 k_ e_))); replace HO_0 := Aside0.mk (hp_); clear hg hw hp_)); try go_wp2_with (first | (go_at_call 45; (with_reducible refine (bits_Add32.calls (rd x0_3 x131_3) (rd l1 x131_3) x13_3 t600 t601 _ A43.out).mono ?_); rintro e w' ⟨rfl, ⟨nd, rfl⟩⟩; (try first | exact ⟨rfl, _, World.drewN_drewN _ _ _⟩ | exact ⟨rfl, _, Eq.trans (World.drewN_drewN _ _ _) (congrArg (World.drewN _) (Nat.add_assoc _ _ _))⟩); have p44 : 0 ≤ (x131_3 : Int) := of_decide_eq_true (by first | (with_reducible assumption) | assumption); have q44 : (x131_3 : Int) < ((x0_3.length : Int) : Int) := of_decide_eq_true (by first | (with_reducible assumption) | assumption); obtain ⟨hx44_0, hf44_0⟩ := PQ_cell 0 HO_0.out (x131_3 : Int) p44 q44; replace p44 := eq_true p44; replace q44 := eq_true q44; obtain ⟨hy45_, hz45_⟩ := PQ_cell 0 HO_0.out (x131_3 : Int) od od; have HP45 := PQ_putg HO_0.out (x131_3 : Int) od (by have h_ : (x131_3 : Int) < ((x0_3.length : Int) : Int) := of_decide_eq_true (by first | (with_reducible assumption) | assumption); first | exact h_ | (have e_ := (PQ_reads' HO_0.out).1; omega) | simpa using h_) t600) | ((with_reducible refine gate_store (t := 42) (p := 148) rfl ?_); (try (rw [drewN_self wr]; generalize hq_ : World.drewN wr _ = wr; have n0_ := Aside0.mk (PQ_at hq_ HO_0.out); have n1_ := Aside0.mk (kept_at hq_ HK.out); have n2_ := Aside0.mk (below_at hq_ HB.out); clear hq_ HO_0 HK HB; have HO_0 := n0_; have HK := n1_; have HB := n2_; clear n0_ n1_ n2_; (try (obtain ⟨hy45_, hz45_⟩ := PQ_cell 0 HO_0.out (x131_3 : Int) od od)); (try (have HP45 := PQ_putg HO_0.out (x131_3 : Int) od (by have h_ : (x131_3 : Int) < ((x0_3.length : Int) : Int) := of_decide_eq_true (by first | (with_reducible assumption) | assumption); first | exact h_ | (have e_ := (PQ_reads' HO_0.out).1; omega) | simpa using h_) t600)))); refine store_event (t := 42) (p := 148) (v := ?vo_w46) (w1 := (wr.setCell ⟨go33, oo33 + (x131_3 : Int).toNat, none⟩ (.int .u32 t600))) ?hg ?ho ?hn ?hr ?_; (case ho => rfl); (case hg => rfl); (case hn => rfl); (case hr => first | (go_simp; done) | (go_simp; rfl)); intro w46 hw; have hg : wr.grownBy w46 (some go33) := (by rw [hw]; exact HP45.2); have hp_ : PQ pre_ post_ pg_ pc_ 42 w46 w0.heap.size (fun k_ => (P0_ k_ ∨ w.heap.size ≤ k_)) (.slice (some ⟨go33, oo33, none⟩) x0_3.length co11) y602 := (by rw [hw, Ny602.out]; exact HP45.1); clear HP45; replace HB := Aside0.mk ((by rw [hw]; exact below_set (HB.out) GB33.out : Below w0.heap.size w0 w46)); replace HK := Aside0.mk (Kept.of_grown (S := (fun k_ => P0_ k_)) hg (by repeat (first | (with_reducible first | exact HK.out | apply Kept.alloc | apply Kept.drewN | apply Kept.drew) | exact HK.out)) (fun k_ e_ => (HO_0.out.1 k_ e_))); replace HO_0 := Aside0.mk (hp_); clear hg hw hp_)))
                     (try simp only [← hl0_3])
                     go_roundg k3
                     case measure => have := HJ9.out; have := HK2.out; have := HK3.out; omega
                     case rel => exact ⟨(y602), (t601), (wrap64 (x131_3 + 1)), es, es, H', ⟨by have := HJ9.out; have := HK2.out; have := HK3.out; omega⟩, ⟨by (try simp only [hl0_2]); (try simp only [hl0_3]); (with_reducible repeat (first | apply PQ_alloc | apply PQ_drewN | apply PQ_drew)); exact HO_0.out⟩, ⟨by repeat (first | (with_reducible first | exact HK.out | apply Kept.alloc | apply Kept.drewN | apply Kept.drew) | exact HK.out)⟩, ⟨bU HB⟩⟩
                    ·rw [if_neg c42] at H
                     exact absurd H (by simp)
                   ·rw [if_neg c41] at H
                    exact absurd H (by simp)
                  ·rw [if_neg c40] at H
                   exact absurd H (by simp)
                 ·rw [if_neg c39] at H
                  have c39b0 := decide_eq_false c39
                  clear c39
                  (try simp only [hl0_2, hl0_3] at c39b0)
                  by_cases c47 : 0 ≤ (l1.length : Int)
                  ·rw [if_pos c47] at H
                   have c47b0 := decide_eq_true c47
                   have c47b1 : decide (0 ≤ l1.length) = true := decide_eq_true (by omega)
                   clear c47
                   (try simp only [hl0_2, hl0_3] at c47b0 c47b1)
                   by_cases c48 : (l1.length : Int) < (x0_3.length : Int)
                   ·rw [if_pos c48] at H
                    have c48b0 := decide_eq_true c48
                    have c48b1 : decide (l1.length < x0_3.length) = true := decide_eq_true (Int.ofNat_lt.mp c48)
                    clear c48
                    (try simp only [hl0_2, hl0_3] at c48b0 c48b1)
                    obtain ⟨y604, hy604⟩ : ∃ y_ : List Int, y_ = (x0_3.set ((l1.length : Int) : Int).toNat (((rd x0_3 (l1.length : Int)) + x13_3) % 4294967296)) := ⟨_, rfl⟩
                    try rw [← hy604] at H
                    have Ny604 := Aside0.mk hy604
                    clear hy604
                    simp only [Option.some.injEq, Prod.mk.injEq] at H
                    obtain ⟨rfl, rfl⟩ := H
                    have p603 : 0 ≤ ((l1.length : Int) : Int) := of_decide_eq_true (by first | (with_reducible assumption) | assumption)
                    have q603 : (l1.length : Int) < (x0_3.length : Int) := of_decide_eq_true (by first | (with_reducible assumption) | assumption)
                    obtain ⟨ad603, e603, hx603_0⟩ := Kd.at_int (PQ_reads' HO_0.out).2.2 (l1.length : Int) p603 q603
                    obtain rfl : (⟨go33, oo33, none⟩ : Addr) = ad603 := (by injection e603)
                    (first | simp only [add_plain] at hx603_0 | simp only [add_at] at hx603_0 | simp only [Addr.add, Nat.zero_add] at hx603_0 | skip)
                    (try simp only [Go.IntWalk.toNatUp] at hx603_0)
                    (try simp only [hl0_2, hl0_3] at p603)
                    (try simp only [hl0_2, hl0_3] at q603)
                    (try simp only [hl0_2, hl0_3] at hx603_0)
                    replace p603 := eq_true p603
                    replace q603 := eq_true q603
                    have p49 : 0 ≤ ((l1.length : Int) : Int) := of_decide_eq_true (by first | (with_reducible assumption) | assumption)
                    have q49 : ((l1.length : Int) : Int) < ((x0_3.length : Int) : Int) := of_decide_eq_true (by first | (with_reducible assumption) | assumption)
                    obtain ⟨hx49_0, hf49_0⟩ := PQ_cell 0 HO_0.out ((l1.length : Int) : Int) p49 q49
                    (try simp only [Int.toNat_natCast] at hx49_0 hf49_0)
                    replace p49 := eq_true p49
                    replace q49 := eq_true q49
                    have HP50 := PQ_putg HO_0.out ((l1.length : Int) : Int) od (by have h_ : ((l1.length : Int) : Int) < ((x0_3.length : Int) : Int) := of_decide_eq_true (by first | (with_reducible assumption) | assumption); first | exact h_ | (have e_ := (PQ_reads' HO_0.out).1; omega) | simpa using h_) (((rd x0_3 (l1.length : Int)) + x13_3) % 4294967296)
                    go_wp2_with (first | ((with_reducible refine gate_store (t := 42) (p := 156) rfl ?_); (try (rw [drewN_self wr]; generalize hq_ : World.drewN wr _ = wr; have n0_ := Aside0.mk (PQ_at hq_ HO_0.out); have n1_ := Aside0.mk (kept_at hq_ HK.out); have n2_ := Aside0.mk (below_at hq_ HB.out); clear hq_ HO_0 HK HB; have HO_0 := n0_; have HK := n1_; have HB := n2_; clear n0_ n1_ n2_; (try (have HP50 := PQ_putg HO_0.out ((l1.length : Int) : Int) od (by have h_ : ((l1.length : Int) : Int) < ((x0_3.length : Int) : Int) := of_decide_eq_true (by first | (with_reducible assumption) | assumption); first | exact h_ | (have e_ := (PQ_reads' HO_0.out).1; omega) | simpa using h_) (((rd x0_3 (l1.length : Int)) + x13_3) % 4294967296))))); refine store_event (t := 42) (p := 156) (v := ?vo_w51) (w1 := (wr.setCell ⟨go33, oo33 + ((l1.length : Int) : Int).toNat, none⟩ (.int .u32 (((rd x0_3 (l1.length : Int)) + x13_3) % 4294967296)))) ?hg ?ho ?hn ?hr ?_; (case ho => rfl); (case hg => rfl); (case hn => rfl); (case hr => first | (go_simp; done) | (go_simp; rfl)); intro w51 hw; have hg : wr.grownBy w51 (some go33) := (by rw [hw]; exact HP50.2); have hp_ : PQ pre_ post_ pg_ pc_ 42 w51 w0.heap.size (fun k_ => (P0_ k_ ∨ w.heap.size ≤ k_)) (.slice (some ⟨go33, oo33, none⟩) x0_3.length co11) y604 := (by rw [hw, Ny604.out]; exact HP50.1); clear HP50; replace HB := Aside0.mk ((by rw [hw]; exact below_set (HB.out) GB33.out : Below w0.heap.size w0 w51)); replace HK := Aside0.mk (Kept.of_grown (S := (fun k_ => P0_ k_)) hg (by repeat (first | (with_reducible first | exact HK.out | apply Kept.alloc | apply Kept.drewN | apply Kept.drew) | exact HK.out)) (fun k_ e_ => (HO_0.out.1 k_ e_))); replace HO_0 := Aside0.mk (hp_); clear hg hw hp_))
                    repeat (go_quiet (first | ((with_reducible refine gate_store (t := 42) (p := 156) rfl ?_); (try (rw [drewN_self wr]; generalize hq_ : World.drewN wr _ = wr; have n0_ := Aside0.mk (PQ_at hq_ HO_0.out); have n1_ := Aside0.mk (kept_at hq_ HK.out); have n2_ := Aside0.mk (below_at hq_ HB.out); clear hq_ HO_0 HK HB; have HO_0 := n0_; have HK := n1_; have HB := n2_; clear n0_ n1_ n2_; (try (have HP50 := PQ_putg HO_0.out ((l1.length : Int) : Int) od (by have h_ : ((l1.length : Int) : Int) < ((x0_3.length : Int) : Int) := of_decide_eq_true (by first | (with_reducible assumption) | assumption); first | exact h_ | (have e_ := (PQ_reads' HO_0.out).1; omega) | simpa using h_) (((rd x0_3 (l1.length : Int)) + x13_3) % 4294967296))))); refine store_event (t := 42) (p := 156) (v := ?vo_w51) (w1 := (wr.setCell ⟨go33, oo33 + ((l1.length : Int) : Int).toNat, none⟩ (.int .u32 (((rd x0_3 (l1.length : Int)) + x13_3) % 4294967296)))) ?hg ?ho ?hn ?hr ?_; (case ho => rfl); (case hg => rfl); (case hn => rfl); (case hr => first | (go_simp; done) | (go_simp; rfl)); intro w51 hw; have hg : wr.grownBy w51 (some go33) := (by rw [hw]; exact HP50.2); have hp_ : PQ pre_ post_ pg_ pc_ 42 w51 w0.heap.size (fun k_ => (P0_ k_ ∨ w.heap.size ≤ k_)) (.slice (some ⟨go33, oo33, none⟩) x0_3.length co11) y604 := (by rw [hw, Ny604.out]; exact HP50.1); clear HP50; replace HB := Aside0.mk ((by rw [hw]; exact below_set (HB.out) GB33.out : Below w0.heap.size w0 w51)); replace HK := Aside0.mk (Kept.of_grown (S := (fun k_ => P0_ k_)) hg (by repeat (first | (with_reducible first | exact HK.out | apply Kept.alloc | apply Kept.drewN | apply Kept.drew) | exact HK.out)) (fun k_ e_ => (HO_0.out.1 k_ e_))); replace HO_0 := Aside0.mk (hp_); clear hg hw hp_)); try go_wp2_with (first | ((with_reducible refine gate_store (t := 42) (p := 156) rfl ?_); (try (rw [drewN_self wr]; generalize hq_ : World.drewN wr _ = wr; have n0_ := Aside0.mk (PQ_at hq_ HO_0.out); have n1_ := Aside0.mk (kept_at hq_ HK.out); have n2_ := Aside0.mk (below_at hq_ HB.out); clear hq_ HO_0 HK HB; have HO_0 := n0_; have HK := n1_; have HB := n2_; clear n0_ n1_ n2_; (try (have HP50 := PQ_putg HO_0.out ((l1.length : Int) : Int) od (by have h_ : ((l1.length : Int) : Int) < ((x0_3.length : Int) : Int) := of_decide_eq_true (by first | (with_reducible assumption) | assumption); first | exact h_ | (have e_ := (PQ_reads' HO_0.out).1; omega) | simpa using h_) (((rd x0_3 (l1.length : Int)) + x13_3) % 4294967296))))); refine store_event (t := 42) (p := 156) (v := ?vo_w51) (w1 := (wr.setCell ⟨go33, oo33 + ((l1.length : Int) : Int).toNat, none⟩ (.int .u32 (((rd x0_3 (l1.length : Int)) + x13_3) % 4294967296)))) ?hg ?ho ?hn ?hr ?_; (case ho => rfl); (case hg => rfl); (case hn => rfl); (case hr => first | (go_simp; done) | (go_simp; rfl)); intro w51 hw; have hg : wr.grownBy w51 (some go33) := (by rw [hw]; exact HP50.2); have hp_ : PQ pre_ post_ pg_ pc_ 42 w51 w0.heap.size (fun k_ => (P0_ k_ ∨ w.heap.size ≤ k_)) (.slice (some ⟨go33, oo33, none⟩) x0_3.length co11) y604 := (by rw [hw, Ny604.out]; exact HP50.1); clear HP50; replace HB := Aside0.mk ((by rw [hw]; exact below_set (HB.out) GB33.out : Below w0.heap.size w0 w51)); replace HK := Aside0.mk (Kept.of_grown (S := (fun k_ => P0_ k_)) hg (by repeat (first | (with_reducible first | exact HK.out | apply Kept.alloc | apply Kept.drewN | apply Kept.drew) | exact HK.out)) (fun k_ e_ => (HO_0.out.1 k_ e_))); replace HO_0 := Aside0.mk (hp_); clear hg hw hp_)))
                    go_ret
                    exact ⟨by first | rfl | (simp [errW_none, errW_some] <;> rfl) | (simp only [← hji5]; first | rfl | (simp [errW_none, errW_some] <;> rfl)) | (simp [*, errW_none, errW_some] <;> rfl), (by first | exact (by (with_reducible repeat (first | apply PQ_alloc | apply PQ_drewN | apply PQ_drew)); exact HO_0.out) | (simp only [hl0_2, hl0_3]; exact (by (with_reducible repeat (first | apply PQ_alloc | apply PQ_drewN | apply PQ_drew)); exact HO_0.out))), bU HB, by repeat (first | (with_reducible first | exact HK.out | apply Kept.alloc | apply Kept.drewN | apply Kept.drew) | exact HK.out)⟩
                   ·rw [if_neg c48] at H
                    exact absurd H (by simp)
                  ·rw [if_neg c47] at H
                   exact absurd H (by simp)
             ·rw [if_neg c31] at H
              exact absurd H (by simp)
            ·rw [if_neg c30] at H
             exact absurd H (by simp)
     ·rw [if_neg c8] at H
      exact absurd H (by simp)
    ·rw [if_neg c7] at H
     exact absurd H (by simp)
   ·rw [if_neg c6] at H
    exact absurd H (by simp)
  ·rw [if_neg c4] at H
   exact absurd H (by simp)
 ·rw [if_neg c3] at H
  exact absurd H (by simp)

/-! ### a piece of a row, handed to nat_step -/
@[reducible] def cutv_ (v : Value) (lo hi : Int) : Value :=
 match v with
 | .slice A n c => .slice (if c = lo.toNat then A else A.map (·.add (lo.toNat * 1))) (hi.toNat - lo.toNat) (c - lo.toNat)
 | v => v
def nat_stepAt.f (k : Nat) (l0 l1 : List Int) (a2 a3 : Int) : Option (Int × List Int) :=
 if 0 ≤ a2 then (if a2 ≤ a3 then (if a3 ≤ (l0.length : Int) then ((nat_step.f k ((l0.take a3.toNat).drop a2.toNat) l1).bind fun r => some (r.1, l0.take a2.toNat ++ r.2 ++ l0.drop a3.toNat)) else none) else none) else none
theorem nat_stepAt.mono : ∀ a0 a1 a2 a3 k, LeO (nat_stepAt.f k a0 a1 a2 a3) (nat_stepAt.f (k + 1) a0 a1 a2 a3) := by
 intro a0 a1 a2 a3 k
 unfold nat_stepAt.f
 exact LeO.ite (LeO.ite (LeO.ite (LeO.bind (nat_step.mono _ _ _) (fun _ => LeO.refl _)) (LeO.none _)) (LeO.none _)) (LeO.none _)
theorem nat_stepAt.calls (k : Nat) (P0_ : Nat → Prop) (u9000_ : Value) (l0 : List Int) (A1 : Option Addr) (c1 : Nat) (l1 : List Int) (a2 a3 : Int) (r1 : Int) (r2 : List Int) (w0 w : World) (hB : Below w0.heap.size w0 w) (ho0 : Kd.R (Kd.int .u32) 42 w w0.heap.size P0_ u9000_ l0) (hr1 : ∀ W_, Kept w W_ (fun k_ => P0_ k_) → Kd.C (Kd.int .u32) W_ A1 l1.length l1) (hc1 : l1.length ≤ c1) (h : nat_stepAt.f k l0 l1 a2 a3 = some (r1, r2)) {v9_ : Value} (hv_ : v9_ = cutv_ u9000_ a2 a3) :
  Calls Try.prog 66 #[v9_, .slice A1 l1.length c1] w fun e w' => e = .returned (.int .u32 r1) ∧ Kd.R (Kd.int .u32) 42 w' w0.heap.size (fun k_ => (P0_ k_ ∨ w.heap.size ≤ k_)) u9000_ r2 ∧ Below w0.heap.size w0 w' ∧ Kept w w' (fun k_ => P0_ k_) := by
 subst hv_
 unfold nat_stepAt.f at h
 split at h
 case isFalse => cases h
 split at h
 case isFalse => cases h
 split at h
 case isFalse => cases h
 rename_i h0 h1 h2
 obtain ⟨⟨d, xs⟩, hs, he⟩ := Option.bind_eq_some_iff.1 h
 injection he with he
 injection he with e1 e2
 subst e1 e2
 obtain ⟨lo, rfl⟩ := Int.eq_ofNat_of_zero_le h0
 obtain ⟨hi, rfl⟩ := Int.eq_ofNat_of_zero_le (show 0 ≤ a3 by omega)
 simp only [Int.toNat_natCast] at hs ⊢
 have g1 : lo ≤ hi := by omega
 have g2 : hi ≤ l0.length := by omega
 have hne : 0 < ((l0.take hi).drop lo).length := by
  rcases Nat.eq_zero_or_pos ((l0.take hi).drop lo).length with hz | hz
  ·have hz2 : ((l0.take hi).drop lo) = [] := List.eq_nil_of_length_eq_zero hz
   rw [hz2] at hs
   unfold nat_step.f at hs
   rw [if_pos (by omega), if_neg (by simp)] at hs
   cases hs
  ·exact hz
 have hlen : ((l0.take hi).drop lo).length = hi - lo := by rw [List.length_drop, List.length_take]; omega
 obtain ⟨g, cap, rfl, hb, hl, hc⟩ := Kd.R_form ho0 (by omega)
 have hcap : l0.length ≤ cap := (Kd.R_reads' ho0).2.1
 have hsp : l0.take lo ++ (l0.take hi).drop lo ++ l0.drop hi = l0 := by
  have e3 : (l0.take hi).take lo = l0.take lo := by rw [List.take_take, Nat.min_eq_left g1]
  rw [← e3, List.take_append_drop, List.take_append_drop]
 have hpl : (l0.take lo).length = lo := by rw [List.length_take]; omega
 have hval : cutv_ (.slice (some ⟨g, 0, none⟩) l0.length cap) (lo : Int) (hi : Int) = .slice (some ⟨g, (l0.take lo).length, none⟩) ((l0.take hi).drop lo).length (cap - lo) := by
  simp only [cutv_, Int.toNat_natCast, hlen, hpl]
  rw [if_neg (by omega)]
  simp [Addr.add]
  try (intro h_; omega)
 rw [hval]
 have hPQ : PQ (l0.take lo) (l0.drop hi) g cap 42 w w0.heap.size P0_ (.slice (some ⟨g, (l0.take lo).length, none⟩) ((l0.take hi).drop lo).length (cap - lo)) ((l0.take hi).drop lo) := by
  refine ⟨fun k hk => ho0.1 k (by simpa [Value.ownBlock] using hk), _, rfl, by omega, ?_⟩
  rw [hsp]
  exact ho0
 refine (nat_step.calls k P0_ _ _ A1 c1 l1 _ _ w0 w hB hPQ hr1 hc1 hs).mono ?_
 rintro e w' ⟨h3, h4, h5, h6⟩
 refine ⟨h3, ?_, h5, h6⟩
 obtain ⟨_, c, h7, h8, h9⟩ := h4
 injection h7 with _ h7 _
 have e4 : (l0.take lo ++ xs ++ l0.drop hi).length = l0.length := by
  rw [← congrArg List.length hsp, List.length_append, List.length_append, List.length_append, List.length_append, h7]
 rw [e4] at h9
 exact h9
end Go.Proofs.Ytldcelgbinenbaa.Px

namespace Go.Proofs.Ytldcelgbinenbaa.Px
open Go.RowKit Go.Proofs.YtldcelgbinenbaaW.PrintWords Go.Proofs.YtldcelgbinenbaaW.PrintLast Go.Proofs.YtldcelgbinenbaaW.PrintMore
attribute [local go_sem] max2_int min2_int max_two min_two max_three min_three max_four min_four   -- for this text's walks alone
set_option linter.unusedVariables false
set_option linter.unusedSimpArgs false

/-! ### bits_Len32: function 62 -/
def bits_Len32.f (a0 : Int) : Option (Int) := if a0 ≥ 65536 then (if (a0 / 65536) ≥ 256 then (if 0 ≤ (((a0 / 65536) / 256) % 256) then (if (((a0 / 65536) / 256) % 256) < 256 then (some (wrap64 ((16 + 8) + (wrap64 (bt (⟨#[0, 1, 2, 2, 3, 3, 3, 3, 4, 4, 4, 4, 4, 4, 4, 4, 5, 5, 5, 5, 5, 5, 5, 5, 5, 5, 5, 5, 5, 5, 5, 5, 6, 6, 6, 6, 6, 6, 6, 6, 6, 6, 6, 6, 6, 6, 6, 6, 6, 6, 6, 6, 6, 6, 6, 6, 6, 6, 6, 6, 6, 6, 6, 6, 7, 7, 7, 7, 7, 7, 7, 7, 7, 7, 7, 7, 7, 7, 7, 7, 7, 7, 7, 7, 7, 7, 7, 7, 7, 7, 7, 7, 7, 7, 7, 7, 7, 7, 7, 7, 7, 7, 7, 7, 7, 7, 7, 7, 7, 7, 7, 7, 7, 7, 7, 7, 7, 7, 7, 7, 7, 7, 7, 7, 7, 7, 7, 7, 8, 8, 8, 8, 8, 8, 8, 8, 8, 8, 8, 8, 8, 8, 8, 8, 8, 8, 8, 8, 8, 8, 8, 8, 8, 8, 8, 8, 8, 8, 8, 8, 8, 8, 8, 8, 8, 8, 8, 8, 8, 8, 8, 8, 8, 8, 8, 8, 8, 8, 8, 8, 8, 8, 8, 8, 8, 8, 8, 8, 8, 8, 8, 8, 8, 8, 8, 8, 8, 8, 8, 8, 8, 8, 8, 8, 8, 8, 8, 8, 8, 8, 8, 8, 8, 8, 8, 8, 8, 8, 8, 8, 8, 8, 8, 8, 8, 8, 8, 8, 8, 8, 8, 8, 8, 8, 8, 8, 8, 8, 8, 8, 8, 8, 8, 8, 8, 8, 8, 8, 8, 8, 8, 8, 8, 8, 8, 8]⟩ : ByteArray) (((a0 / 65536) / 256) % 256)))))) else (none)) else (none)) else (if 0 ≤ ((a0 / 65536) % 256) then (if ((a0 / 65536) % 256) < 256 then (some (wrap64 (16 + (wrap64 (bt (⟨#[0, 1, 2, 2, 3, 3, 3, 3, 4, 4, 4, 4, 4, 4, 4, 4, 5, 5, 5, 5, 5, 5, 5, 5, 5, 5, 5, 5, 5, 5, 5, 5, 6, 6, 6, 6, 6, 6, 6, 6, 6, 6, 6, 6, 6, 6, 6, 6, 6, 6, 6, 6, 6, 6, 6, 6, 6, 6, 6, 6, 6, 6, 6, 6, 7, 7, 7, 7, 7, 7, 7, 7, 7, 7, 7, 7, 7, 7, 7, 7, 7, 7, 7, 7, 7, 7, 7, 7, 7, 7, 7, 7, 7, 7, 7, 7, 7, 7, 7, 7, 7, 7, 7, 7, 7, 7, 7, 7, 7, 7, 7, 7, 7, 7, 7, 7, 7, 7, 7, 7, 7, 7, 7, 7, 7, 7, 7, 7, 8, 8, 8, 8, 8, 8, 8, 8, 8, 8, 8, 8, 8, 8, 8, 8, 8, 8, 8, 8, 8, 8, 8, 8, 8, 8, 8, 8, 8, 8, 8, 8, 8, 8, 8, 8, 8, 8, 8, 8, 8, 8, 8, 8, 8, 8, 8, 8, 8, 8, 8, 8, 8, 8, 8, 8, 8, 8, 8, 8, 8, 8, 8, 8, 8, 8, 8, 8, 8, 8, 8, 8, 8, 8, 8, 8, 8, 8, 8, 8, 8, 8, 8, 8, 8, 8, 8, 8, 8, 8, 8, 8, 8, 8, 8, 8, 8, 8, 8, 8, 8, 8, 8, 8, 8, 8, 8, 8, 8, 8, 8, 8, 8, 8, 8, 8, 8, 8, 8, 8, 8, 8, 8, 8, 8, 8, 8, 8]⟩ : ByteArray) ((a0 / 65536) % 256)))))) else (none)) else (none))) else (if a0 ≥ 256 then (if 0 ≤ ((a0 / 256) % 256) then (if ((a0 / 256) % 256) < 256 then (some (wrap64 ((0 + 8) + (wrap64 (bt (⟨#[0, 1, 2, 2, 3, 3, 3, 3, 4, 4, 4, 4, 4, 4, 4, 4, 5, 5, 5, 5, 5, 5, 5, 5, 5, 5, 5, 5, 5, 5, 5, 5, 6, 6, 6, 6, 6, 6, 6, 6, 6, 6, 6, 6, 6, 6, 6, 6, 6, 6, 6, 6, 6, 6, 6, 6, 6, 6, 6, 6, 6, 6, 6, 6, 7, 7, 7, 7, 7, 7, 7, 7, 7, 7, 7, 7, 7, 7, 7, 7, 7, 7, 7, 7, 7, 7, 7, 7, 7, 7, 7, 7, 7, 7, 7, 7, 7, 7, 7, 7, 7, 7, 7, 7, 7, 7, 7, 7, 7, 7, 7, 7, 7, 7, 7, 7, 7, 7, 7, 7, 7, 7, 7, 7, 7, 7, 7, 7, 8, 8, 8, 8, 8, 8, 8, 8, 8, 8, 8, 8, 8, 8, 8, 8, 8, 8, 8, 8, 8, 8, 8, 8, 8, 8, 8, 8, 8, 8, 8, 8, 8, 8, 8, 8, 8, 8, 8, 8, 8, 8, 8, 8, 8, 8, 8, 8, 8, 8, 8, 8, 8, 8, 8, 8, 8, 8, 8, 8, 8, 8, 8, 8, 8, 8, 8, 8, 8, 8, 8, 8, 8, 8, 8, 8, 8, 8, 8, 8, 8, 8, 8, 8, 8, 8, 8, 8, 8, 8, 8, 8, 8, 8, 8, 8, 8, 8, 8, 8, 8, 8, 8, 8, 8, 8, 8, 8, 8, 8, 8, 8, 8, 8, 8, 8, 8, 8, 8, 8, 8, 8, 8, 8, 8, 8, 8, 8]⟩ : ByteArray) ((a0 / 256) % 256)))))) else (none)) else (none)) else (if 0 ≤ ((a0) % 256) then (if ((a0) % 256) < 256 then (some (wrap64 (0 + (wrap64 (bt (⟨#[0, 1, 2, 2, 3, 3, 3, 3, 4, 4, 4, 4, 4, 4, 4, 4, 5, 5, 5, 5, 5, 5, 5, 5, 5, 5, 5, 5, 5, 5, 5, 5, 6, 6, 6, 6, 6, 6, 6, 6, 6, 6, 6, 6, 6, 6, 6, 6, 6, 6, 6, 6, 6, 6, 6, 6, 6, 6, 6, 6, 6, 6, 6, 6, 7, 7, 7, 7, 7, 7, 7, 7, 7, 7, 7, 7, 7, 7, 7, 7, 7, 7, 7, 7, 7, 7, 7, 7, 7, 7, 7, 7, 7, 7, 7, 7, 7, 7, 7, 7, 7, 7, 7, 7, 7, 7, 7, 7, 7, 7, 7, 7, 7, 7, 7, 7, 7, 7, 7, 7, 7, 7, 7, 7, 7, 7, 7, 7, 8, 8, 8, 8, 8, 8, 8, 8, 8, 8, 8, 8, 8, 8, 8, 8, 8, 8, 8, 8, 8, 8, 8, 8, 8, 8, 8, 8, 8, 8, 8, 8, 8, 8, 8, 8, 8, 8, 8, 8, 8, 8, 8, 8, 8, 8, 8, 8, 8, 8, 8, 8, 8, 8, 8, 8, 8, 8, 8, 8, 8, 8, 8, 8, 8, 8, 8, 8, 8, 8, 8, 8, 8, 8, 8, 8, 8, 8, 8, 8, 8, 8, 8, 8, 8, 8, 8, 8, 8, 8, 8, 8, 8, 8, 8, 8, 8, 8, 8, 8, 8, 8, 8, 8, 8, 8, 8, 8, 8, 8, 8, 8, 8, 8, 8, 8, 8, 8, 8, 8, 8, 8, 8, 8, 8, 8, 8, 8]⟩ : ByteArray) ((a0) % 256)))))) else (none)) else (none)))
set_option maxHeartbeats 8000000 in
set_option maxRecDepth 100000 in
theorem bits_Len32.calls (a0 : Int) (r : Int) (w : World) (h : bits_Len32.f a0 = some r) :
  Calls Try.prog 62 #[.int .u32 a0] w fun e w' => e = .returned (.int .i64 r) ∧ Drawn0 w w' := by
 have H := h
 unfold bits_Len32.f at H
 clear h
 by_cases c2 : a0 ≥ 65536
 ·rw [if_pos c2] at H
  have c2b0 : decide (65536 ≤ a0) = true := decide_eq_true c2
  clear c2
  by_cases c3 : (a0 / 65536) ≥ 256
  ·rw [if_pos c3] at H
   have c3b0 : decide (256 ≤ (a0 / 65536)) = true := decide_eq_true c3
   clear c3
   obtain ⟨ji4, hji4⟩ : ∃ j_ : Int, (((a0 / 65536) / 256) % 256) = j_ := ⟨_, rfl⟩
   (first | rw [hji4] at H | simp only [hji4] at H)
   by_cases c5 : 0 ≤ (ji4)
   ·rw [if_pos c5] at H
    have c5b0 := decide_eq_true c5
    clear c5
    by_cases c6 : (ji4) < 256
    ·rw [if_pos c6] at H
     have c6b0 := decide_eq_true c6
     clear c6
     obtain rfl := Option.some.inj H
     have p7 : 0 ≤ ((ji4) : Int) := of_decide_eq_true (by first | (with_reducible assumption) | assumption)
     have q7 : (ji4) < (256 : Int) := of_decide_eq_true (by first | (with_reducible assumption) | assumption)
     have hx7 := bt_at (⟨#[0, 1, 2, 2, 3, 3, 3, 3, 4, 4, 4, 4, 4, 4, 4, 4, 5, 5, 5, 5, 5, 5, 5, 5, 5, 5, 5, 5, 5, 5, 5, 5, 6, 6, 6, 6, 6, 6, 6, 6, 6, 6, 6, 6, 6, 6, 6, 6, 6, 6, 6, 6, 6, 6, 6, 6, 6, 6, 6, 6, 6, 6, 6, 6, 7, 7, 7, 7, 7, 7, 7, 7, 7, 7, 7, 7, 7, 7, 7, 7, 7, 7, 7, 7, 7, 7, 7, 7, 7, 7, 7, 7, 7, 7, 7, 7, 7, 7, 7, 7, 7, 7, 7, 7, 7, 7, 7, 7, 7, 7, 7, 7, 7, 7, 7, 7, 7, 7, 7, 7, 7, 7, 7, 7, 7, 7, 7, 7, 8, 8, 8, 8, 8, 8, 8, 8, 8, 8, 8, 8, 8, 8, 8, 8, 8, 8, 8, 8, 8, 8, 8, 8, 8, 8, 8, 8, 8, 8, 8, 8, 8, 8, 8, 8, 8, 8, 8, 8, 8, 8, 8, 8, 8, 8, 8, 8, 8, 8, 8, 8, 8, 8, 8, 8, 8, 8, 8, 8, 8, 8, 8, 8, 8, 8, 8, 8, 8, 8, 8, 8, 8, 8, 8, 8, 8, 8, 8, 8, 8, 8, 8, 8, 8, 8, 8, 8, 8, 8, 8, 8, 8, 8, 8, 8, 8, 8, 8, 8, 8, 8, 8, 8, 8, 8, 8, 8, 8, 8, 8, 8, 8, 8, 8, 8, 8, 8, 8, 8, 8, 8, 8, 8, 8, 8, 8, 8]⟩ : ByteArray) (ji4)
     replace p7 := eq_true p7
     replace q7 := eq_true q7
     go_enter Try.func62, Try.ntmps62
     go_wp2
     go_ret
     exact ⟨by first | rfl | (simp; done) | (simp only [← hji4] <;> (first | rfl | simp)) | (simp [*]; done), by repeat (first | exact Drawn0.refl _ | apply Drawn0.step)⟩
    ·rw [if_neg c6] at H
     exact absurd H (by simp)
   ·rw [if_neg c5] at H
    exact absurd H (by simp)
  ·rw [if_neg c3] at H
   have c3b0 : decide (256 ≤ (a0 / 65536)) = false := decide_eq_false c3
   clear c3
   obtain ⟨ji8, hji8⟩ : ∃ j_ : Int, ((a0 / 65536) % 256) = j_ := ⟨_, rfl⟩
   (first | rw [hji8] at H | simp only [hji8] at H)
   by_cases c9 : 0 ≤ (ji8)
   ·rw [if_pos c9] at H
    have c9b0 := decide_eq_true c9
    clear c9
    by_cases c10 : (ji8) < 256
    ·rw [if_pos c10] at H
     have c10b0 := decide_eq_true c10
     clear c10
     obtain rfl := Option.some.inj H
     have p11 : 0 ≤ ((ji8) : Int) := of_decide_eq_true (by first | (with_reducible assumption) | assumption)
     have q11 : (ji8) < (256 : Int) := of_decide_eq_true (by first | (with_reducible assumption) | assumption)
     have hx11 := bt_at (⟨#[0, 1, 2, 2, 3, 3, 3, 3, 4, 4, 4, 4, 4, 4, 4, 4, 5, 5, 5, 5, 5, 5, 5, 5, 5, 5, 5, 5, 5, 5, 5, 5, 6, 6, 6, 6, 6, 6, 6, 6, 6, 6, 6, 6, 6, 6, 6, 6, 6, 6, 6, 6, 6, 6, 6, 6, 6, 6, 6, 6, 6, 6, 6, 6, 7, 7, 7, 7, 7, 7, 7, 7, 7, 7, 7, 7, 7, 7, 7, 7, 7, 7, 7, 7, 7, 7, 7, 7, 7, 7, 7, 7, 7, 7, 7, 7, 7, 7, 7, 7, 7, 7, 7, 7, 7, 7, 7, 7, 7, 7, 7, 7, 7, 7, 7, 7, 7, 7, 7, 7, 7, 7, 7, 7, 7, 7, 7, 7, 8, 8, 8, 8, 8, 8, 8, 8, 8, 8, 8, 8, 8, 8, 8, 8, 8, 8, 8, 8, 8, 8, 8, 8, 8, 8, 8, 8, 8, 8, 8, 8, 8, 8, 8, 8, 8, 8, 8, 8, 8, 8, 8, 8, 8, 8, 8, 8, 8, 8, 8, 8, 8, 8, 8, 8, 8, 8, 8, 8, 8, 8, 8, 8, 8, 8, 8, 8, 8, 8, 8, 8, 8, 8, 8, 8, 8, 8, 8, 8, 8, 8, 8, 8, 8, 8, 8, 8, 8, 8, 8, 8, 8, 8, 8, 8, 8, 8, 8, 8, 8, 8, 8, 8, 8, 8, 8, 8, 8, 8, 8, 8, 8, 8, 8, 8, 8, 8, 8, 8, 8, 8, 8, 8, 8, 8, 8, 8]⟩ : ByteArray) (ji8)
     replace p11 := eq_true p11
     replace q11 := eq_true q11
     go_enter Try.func62, Try.ntmps62
     go_wp2
     go_ret
     exact ⟨by first | rfl | (simp; done) | (simp only [← hji8] <;> (first | rfl | simp)) | (simp [*]; done), by repeat (first | exact Drawn0.refl _ | apply Drawn0.step)⟩
    ·rw [if_neg c10] at H
     exact absurd H (by simp)
   ·rw [if_neg c9] at H
    exact absurd H (by simp)
 ·rw [if_neg c2] at H
  have c2b0 : decide (65536 ≤ a0) = false := decide_eq_false c2
  clear c2
  by_cases c12 : a0 ≥ 256
  ·rw [if_pos c12] at H
   have c12b0 : decide (256 ≤ a0) = true := decide_eq_true c12
   clear c12
   obtain ⟨ji13, hji13⟩ : ∃ j_ : Int, ((a0 / 256) % 256) = j_ := ⟨_, rfl⟩
   (first | rw [hji13] at H | simp only [hji13] at H)
   by_cases c14 : 0 ≤ (ji13)
   ·rw [if_pos c14] at H
    have c14b0 := decide_eq_true c14
    clear c14
    by_cases c15 : (ji13) < 256
    ·rw [if_pos c15] at H
     have c15b0 := decide_eq_true c15
     clear c15
     obtain rfl := Option.some.inj H
     have p16 : 0 ≤ ((ji13) : Int) := of_decide_eq_true (by first | (with_reducible assumption) | assumption)
     have q16 : (ji13) < (256 : Int) := of_decide_eq_true (by first | (with_reducible assumption) | assumption)
     have hx16 := bt_at (⟨#[0, 1, 2, 2, 3, 3, 3, 3, 4, 4, 4, 4, 4, 4, 4, 4, 5, 5, 5, 5, 5, 5, 5, 5, 5, 5, 5, 5, 5, 5, 5, 5, 6, 6, 6, 6, 6, 6, 6, 6, 6, 6, 6, 6, 6, 6, 6, 6, 6, 6, 6, 6, 6, 6, 6, 6, 6, 6, 6, 6, 6, 6, 6, 6, 7, 7, 7, 7, 7, 7, 7, 7, 7, 7, 7, 7, 7, 7, 7, 7, 7, 7, 7, 7, 7, 7, 7, 7, 7, 7, 7, 7, 7, 7, 7, 7, 7, 7, 7, 7, 7, 7, 7, 7, 7, 7, 7, 7, 7, 7, 7, 7, 7, 7, 7, 7, 7, 7, 7, 7, 7, 7, 7, 7, 7, 7, 7, 7, 8, 8, 8, 8, 8, 8, 8, 8, 8, 8, 8, 8, 8, 8, 8, 8, 8, 8, 8, 8, 8, 8, 8, 8, 8, 8, 8, 8, 8, 8, 8, 8, 8, 8, 8, 8, 8, 8, 8, 8, 8, 8, 8, 8, 8, 8, 8, 8, 8, 8, 8, 8, 8, 8, 8, 8, 8, 8, 8, 8, 8, 8, 8, 8, 8, 8, 8, 8, 8, 8, 8, 8, 8, 8, 8, 8, 8, 8, 8, 8, 8, 8, 8, 8, 8, 8, 8, 8, 8, 8, 8, 8, 8, 8, 8, 8, 8, 8, 8, 8, 8, 8, 8, 8, 8, 8, 8, 8, 8, 8, 8, 8, 8, 8, 8, 8, 8, 8, 8, 8, 8, 8, 8, 8, 8, 8, 8, 8]⟩ : ByteArray) (ji13)
     replace p16 := eq_true p16
     replace q16 := eq_true q16
     go_enter Try.func62, Try.ntmps62
     go_wp2
     go_ret
     exact ⟨by first | rfl | (simp; done) | (simp only [← hji13] <;> (first | rfl | simp)) | (simp [*]; done), by repeat (first | exact Drawn0.refl _ | apply Drawn0.step)⟩
    ·rw [if_neg c15] at H
     exact absurd H (by simp)
   ·rw [if_neg c14] at H
    exact absurd H (by simp)
  ·rw [if_neg c12] at H
   have c12b0 : decide (256 ≤ a0) = false := decide_eq_false c12
   clear c12
   obtain ⟨ji17, hji17⟩ : ∃ j_ : Int, ((a0) % 256) = j_ := ⟨_, rfl⟩
   (first | rw [hji17] at H | simp only [hji17] at H)
   by_cases c18 : 0 ≤ (ji17)
   ·rw [if_pos c18] at H
    have c18b0 := decide_eq_true c18
    clear c18
    by_cases c19 : (ji17) < 256
    ·rw [if_pos c19] at H
     have c19b0 := decide_eq_true c19
     clear c19
     obtain rfl := Option.some.inj H
     have p20 : 0 ≤ ((ji17) : Int) := of_decide_eq_true (by first | (with_reducible assumption) | assumption)
     have q20 : (ji17) < (256 : Int) := of_decide_eq_true (by first | (with_reducible assumption) | assumption)
     have hx20 := bt_at (⟨#[0, 1, 2, 2, 3, 3, 3, 3, 4, 4, 4, 4, 4, 4, 4, 4, 5, 5, 5, 5, 5, 5, 5, 5, 5, 5, 5, 5, 5, 5, 5, 5, 6, 6, 6, 6, 6, 6, 6, 6, 6, 6, 6, 6, 6, 6, 6, 6, 6, 6, 6, 6, 6, 6, 6, 6, 6, 6, 6, 6, 6, 6, 6, 6, 7, 7, 7, 7, 7, 7, 7, 7, 7, 7, 7, 7, 7, 7, 7, 7, 7, 7, 7, 7, 7, 7, 7, 7, 7, 7, 7, 7, 7, 7, 7, 7, 7, 7, 7, 7, 7, 7, 7, 7, 7, 7, 7, 7, 7, 7, 7, 7, 7, 7, 7, 7, 7, 7, 7, 7, 7, 7, 7, 7, 7, 7, 7, 7, 8, 8, 8, 8, 8, 8, 8, 8, 8, 8, 8, 8, 8, 8, 8, 8, 8, 8, 8, 8, 8, 8, 8, 8, 8, 8, 8, 8, 8, 8, 8, 8, 8, 8, 8, 8, 8, 8, 8, 8, 8, 8, 8, 8, 8, 8, 8, 8, 8, 8, 8, 8, 8, 8, 8, 8, 8, 8, 8, 8, 8, 8, 8, 8, 8, 8, 8, 8, 8, 8, 8, 8, 8, 8, 8, 8, 8, 8, 8, 8, 8, 8, 8, 8, 8, 8, 8, 8, 8, 8, 8, 8, 8, 8, 8, 8, 8, 8, 8, 8, 8, 8, 8, 8, 8, 8, 8, 8, 8, 8, 8, 8, 8, 8, 8, 8, 8, 8, 8, 8, 8, 8, 8, 8, 8, 8, 8, 8]⟩ : ByteArray) (ji17)
     replace p20 := eq_true p20
     replace q20 := eq_true q20
     go_enter Try.func62, Try.ntmps62
     go_wp2
     go_ret
     exact ⟨by first | rfl | (simp; done) | (simp only [← hji17] <;> (first | rfl | simp)) | (simp [*]; done), by repeat (first | exact Drawn0.refl _ | apply Drawn0.step)⟩
    ·rw [if_neg c19] at H
     exact absurd H (by simp)
   ·rw [if_neg c18] at H
    exact absurd H (by simp)

end Go.Proofs.Ytldcelgbinenbaa.Px

namespace Go.Proofs.Ytldcelgbinenbaa.Px
open Go.RowKit Go.Proofs.YtldcelgbinenbaaW.PrintWords Go.Proofs.YtldcelgbinenbaaW.PrintLast Go.Proofs.YtldcelgbinenbaaW.PrintMore
attribute [local go_sem] max2_int min2_int max_two min_two max_three min_three max_four min_four   -- for this text's walks alone
set_option linter.unusedVariables false
set_option linter.unusedSimpArgs false

/-! ### bits_LeadingZeros32: function 65 -/
def bits_LeadingZeros32.f (a0 : Int) : Option (Int) := (bits_Len32.f a0).bind fun t581 => (some (wrap64 (32 - t581)))
set_option maxHeartbeats 8000000 in
set_option maxRecDepth 100000 in
theorem bits_LeadingZeros32.calls (a0 : Int) (r : Int) (w : World) (h : bits_LeadingZeros32.f a0 = some r) :
  Calls Try.prog 65 #[.int .u32 a0] w fun e w' => e = .returned (.int .i64 r) ∧ Drawn0 w w' := by
 have H := h
 unfold bits_LeadingZeros32.f at H
 clear h
 replace H := oc H
 obtain ⟨t581, A2, H⟩ := H
 obtain rfl := Option.some.inj H
 go_enter Try.func65, Try.ntmps65
 go_wp2_with (first | ((with_reducible refine gc 62 rfl ?_); refine gL (some 4) Try.func62 #[.int .u32 a0] ?_; (with_reducible refine (bits_Len32.calls a0 t581 _ A2.out).mono ?_); rintro e w' ⟨rfl, ⟨nd, rfl⟩⟩; refine ⟨_, rfl, ?_⟩))
 go_ret
 exact ⟨by first | rfl | (simp; done) | (simp [*]; done), by repeat (first | exact Drawn0.refl _ | apply Drawn0.step)⟩

end Go.Proofs.Ytldcelgbinenbaa.Px

namespace Go.Proofs.Ytldcelgbinenbaa.Px
open Go.RowKit Go.Proofs.YtldcelgbinenbaaW.PrintWords Go.Proofs.YtldcelgbinenbaaW.PrintLast Go.Proofs.YtldcelgbinenbaaW.PrintMore
attribute [local go_sem] max2_int min2_int max_two min_two max_three min_three max_four min_four   -- for this text's walks alone
set_option linter.unusedVariables false
set_option linter.unusedSimpArgs false

/-! ### nat_long: function 54 -/
mutual
def nat_long.l0 : Nat → List Int → Int → List Int → List Int → Option (List Int × List Int)
 | 0, _, _, _, _ => none
 | k + 1, x0, x6, x7, x8 => if (x8.length : Int) ≤ (x0.length : Int) then (if x8.length < 35184372088832 then (nat_long.l0 k x0 x6 x7 (x8 ++ [0])) else (none)) else (if 0 ≤ (wrap64 ((x8.length : Int) - (x7.length : Int))) then (if (wrap64 ((x8.length : Int) - (x7.length : Int)) : Int).toNat ≤ 70368744177664 then ((some (List.replicate (wrap64 ((x8.length : Int) - (x7.length : Int)) : Int).toNat 0 : List Int)).bind fun y616 => (nat_long.l1 k x6 x7 x8 (x7.length : Int) y616 (wrap64 ((y616.length : Int) - 1)))) else (none)) else (none))
def nat_long.l1 : Nat → Int → List Int → List Int → Int → List Int → Int → Option (List Int × List Int)
 | 0, _, _, _, _, _, _ => none
 | k + 1, x6, x7, x8, x9, x10, x11 => if x11 ≥ 0 then (if 0 ≤ x11 then (if x11 ≤ (wrap64 ((wrap64 (x11 + x9)) + 1)) then (if (wrap64 ((wrap64 (x11 + x9)) + 1)) ≤ (x8.length : Int) then ((nat_stepAt.f k x8 x7 x11 (wrap64 ((wrap64 (x11 + x9)) + 1))).bind fun bt623 => (if x11 < (x10.length : Int) then (nat_long.l1 k x6 x7 bt623.2 x9 (x10.set (x11 : Int).toNat bt623.1) (wrap64 (x11 - 1))) else (none))) else (none)) else (none)) else (none)) else ((nat_trim.f k x10).bind fun t626 => (if 0 ≤ x9 then (if x9 ≤ (x8.length : Int) then ((nat_trim.f k (x8.take (x9 : Int).toNat)).bind fun t632 => ((nat_down.f k t632 x6).bind fun t635 => ((nat_trim.f k t635).bind fun t638 => (some (t626, t638))))) else (none)) else (none)))
end
def nat_long.f (k : Nat) (l0 : List Int) (l1 : List Int) : Option (List Int × List Int) := if 0 ≤ (wrap64 ((l1.length : Int) - 1)) then (if (wrap64 ((l1.length : Int) - 1)) < (l1.length : Int) then ((bits_LeadingZeros32.f (rd l1 (wrap64 ((l1.length : Int) - 1)))).bind fun t606 => ((nat_up.f k l1 t606).bind fun t607 => ((nat_up.f k l0 t606).bind fun t610 => (nat_long.l0 k l0 t606 t607 t610)))) else (none)) else (none)
theorem nat_long.mono_l : ∀ k, (∀ y0 y1 y2 y3, LeO (nat_long.l0 k y0 y1 y2 y3) (nat_long.l0 (k + 1) y0 y1 y2 y3)) ∧ (∀ y0 y1 y2 y3 y4 y5, LeO (nat_long.l1 k y0 y1 y2 y3 y4 y5) (nat_long.l1 (k + 1) y0 y1 y2 y3 y4 y5))
 | 0 => ⟨fun _ _ _ _ r h => by simp [nat_long.l0] at h, fun _ _ _ _ _ _ r h => by simp [nat_long.l1] at h⟩
 | k + 1 => by
  obtain ⟨ih0, ih1⟩ := nat_long.mono_l k
  refine ⟨?_, ?_⟩
  ·intro y0 y1 y2 y3
   unfold nat_long.l0
   repeat' (with_reducible first | exact ih0 _ _ _ _ | exact ih1 _ _ _ _ _ _ | exact nat_down.mono _ _ _ | exact nat_stepAt.mono _ _ _ _ _ | exact nat_trim.mono _ _ | exact nat_up.mono _ _ _ | exact LeO.refl _ | exact LeO.none _ | refine LeO.ite ?_ ?_ | refine LeO.bind ?_ (fun _ => ?_))
  ·intro y0 y1 y2 y3 y4 y5
   unfold nat_long.l1
   repeat' (with_reducible first | exact ih0 _ _ _ _ | exact ih1 _ _ _ _ _ _ | exact nat_down.mono _ _ _ | exact nat_stepAt.mono _ _ _ _ _ | exact nat_trim.mono _ _ | exact nat_up.mono _ _ _ | exact LeO.refl _ | exact LeO.none _ | refine LeO.ite ?_ ?_ | refine LeO.bind ?_ (fun _ => ?_))
theorem nat_long.mono : ∀ a0 a1 k, LeO (nat_long.f k a0 a1) (nat_long.f (k + 1) a0 a1) := by
 intro a0 a1 k
 obtain ⟨ih0, ih1⟩ := nat_long.mono_l k
 unfold nat_long.f
 repeat' (with_reducible first | exact ih0 _ _ _ _ | exact ih1 _ _ _ _ _ _ | exact nat_down.mono _ _ _ | exact nat_stepAt.mono _ _ _ _ _ | exact nat_trim.mono _ _ | exact nat_up.mono _ _ _ | exact LeO.refl _ | exact LeO.none _ | refine LeO.ite ?_ ?_ | refine LeO.bind ?_ (fun _ => ?_))
def nat_long.T12 : Bool × List (List Nat × List Nat) := (true, [([], []), ([0], [0]), ([], []), ([], []), ([2, 3], [2, 3]), ([4, 1], [4]), ([], []), ([5, 6, 5], [5, 6]), ([7, 7], [7]), ([1, 8, 0, 1], [1]), ([8, 9, 0, 1, 2, 3, 4, 5, 6, 7, 8, 9], [8])])
def nat_long.B12 : List Nat := [0, 1, 0, 0, 12, 31, 0, 127, 255, 511, 1023]
theorem nat_long.tab12 : rtab .any (opsOf Try.f54 12) = nat_long.T12 := by kernel_rfl
theorem nat_long.bits12 : waitsOk nat_long.T12.2 nat_long.B12 = true := by kernel_rfl
set_option maxHeartbeats 8000000 in
set_option maxRecDepth 100000 in
theorem nat_long.calls (k : Nat) (A0 : Option Addr) (c0 : Nat) (l0 : List Int) (A1 : Option Addr) (c1 : Nat) (l1 : List Int) (r1 : List Int) (r2 : List Int) (w : World) (hr0 : Kd.C (Kd.int .u32) w A0 l0.length l0) (hc0 : l0.length ≤ c0) (hr1 : Kd.C (Kd.int .u32) w A1 l1.length l1) (hc1 : l1.length ≤ c1) (h : nat_long.f k l0 l1 = some (r1, r2)) :
  Calls Try.prog 54 #[.slice A0 l0.length c0, .slice A1 l1.length c1] w fun e w' => ∃ v0_ v1_ : Value, e = .returned (.tuple #[v0_, v1_]) ∧ Kd.R (Kd.int .u32) 42 w' w.heap.size (fun k_ => some k_ ≠ (v1_ : Value).ownBlock) v0_ r1 ∧ Kd.R (Kd.int .u32) 42 w' w.heap.size (fun k_ => some k_ ≠ (v0_ : Value).ownBlock) v1_ r2 ∧ Below w.heap.size w w' := by
 have HR0 := Aside0.mk hr0
 have HC0 := Aside0.mk hc0
 clear hr0 hc0
 have HR1 := Aside0.mk hr1
 have HC1 := Aside0.mk hc1
 clear hr1 hc1
 have HB := Aside0.mk (Below.refl w.heap.size w)
 have H := h
 unfold nat_long.f at H
 clear h
 obtain ⟨ji3, hji3⟩ : ∃ j_ : Int, (wrap64 ((l1.length : Int) - 1)) = j_ := ⟨_, rfl⟩
 (first | rw [hji3] at H | simp only [hji3] at H)
 have hji3w : (IntKind.i64.wrap ((l1.length : Int) - 1)) = ji3 := (i64_w _).trans hji3
 by_cases c4 : 0 ≤ (ji3)
 ·rw [if_pos c4] at H
  have c4b0 := decide_eq_true c4
  clear c4
  by_cases c5 : (ji3) < (l1.length : Int)
  ·rw [if_pos c5] at H
   have c5b0 := decide_eq_true c5
   clear c5
   replace H := oc H
   obtain ⟨t606, A6, H⟩ := H
   replace H := oc H
   obtain ⟨t607, A7, H⟩ := H
   replace H := oc H
   obtain ⟨t610, A8, H⟩ := H
   have H' := Aside0.mk H
   clear H
   have p605 : 0 ≤ ((ji3) : Int) := of_decide_eq_true (by first | (with_reducible assumption) | assumption)
   have q605 : (ji3) < (l1.length : Int) := of_decide_eq_true (by first | (with_reducible assumption) | assumption)
   obtain ⟨ad605, e605, hx605_0⟩ := Kd.at_int HR1.out (ji3) p605 q605
   cases e605
   replace p605 := eq_true p605
   replace q605 := eq_true q605
   go_enter Try.func54, Try.ntmps54
   go_wp2_with (first | ((with_reducible refine gc 65 rfl ?_); refine goesL_ (some 18) rfl rfl Try.func65 (by kernel_rfl) rfl #[.int .u32 (rd l1 (ji3))] rfl (by (try simp only [List.map_toArray, List.map_cons, List.map_nil]); first | done | (simp only [hji3]; rfl) | rfl | (simp only [List.length_drop, List.length_take]; rfl)) ?_; (with_reducible refine (bits_LeadingZeros32.calls (rd l1 (ji3)) t606 _ A6.out).mono ?_); rintro e w' ⟨rfl, ⟨nd, rfl⟩⟩; refine ⟨_, rfl, ?_⟩) | ((with_reducible refine gc 58 rfl ?_); refine gL (some 21) Try.func58 #[.slice (some ad605) l1.length c1, .int .i64 t606] ?_; (with_reducible refine (nat_up.calls k _ _ l1 t606 t607 _ ?side1 ?side2 A7.out).mono ?_); (case side1 => exact cU HR1); (case side2 => exact HC1.out); rintro e w9 ⟨v608, rfl, ho0, hb⟩; refine ⟨_, rfl, ?_⟩; have HO609 := rL ho0 HB; replace HB := bS HB hb; clear hb ho0) | ((with_reducible refine gc 58 rfl ?_); refine gL (some 24) Try.func58 #[.slice A0 l0.length c0, .int .i64 t606] ?_; (with_reducible refine (nat_up.calls k _ _ l0 t606 t610 _ ?side1 ?side2 A8.out).mono ?_); (case side1 => exact cB HR0 HB); (case side2 => exact HC0.out); rintro e w10 ⟨v611, rfl, ho0, hb⟩; refine ⟨_, rfl, ?_⟩; have HO612 := rL (rX ho0 HO609) HB; replace HO609 := rE HO609 ho0 hb; replace HB := bS HB hb; clear hb ho0))
   (try generalize ad605.add (ji3).toNat = pa605_)
   go_loopg [8] k (fun kq v8 w' => ∃ (x8_1 : List Int), Aside0 (nat_long.l0 kq l0 t606 t607 x8_1 = some (r1, r2)) ∧ Aside0 (kq ≤ k) ∧ Aside0 (Kd.R (Kd.int .u32) 42 w' w.heap.size (fun k_ => some k_ ≠ (v8 : Value).ownBlock) v608 t607) ∧ Aside0 (Kd.R (Kd.int .u32) 42 w' w.heap.size (fun k_ => some k_ ≠ (v608 : Value).ownBlock) v8 x8_1) ∧ Aside0 (Below w.heap.size w w'))
   case atStart => exact ⟨(t610), H', ⟨Nat.le_refl _⟩, ⟨by (with_reducible repeat (first | apply Kd.R_alloc | apply Kd.R_drewN | apply Kd.R_drew)); exact Kd.R_mono HO609.out (fun _ hk => hk.2)⟩, ⟨by (with_reducible repeat (first | apply Kd.R_alloc | apply Kd.R_drewN | apply Kd.R_drew)); exact Kd.R_mono HO612.out (fun _ hk => hk.2)⟩, ⟨bU HB⟩⟩
   case round =>
    clear H'
    try clear c1; try clear p2; try clear c4; try clear c4b0; try clear c5; try clear c5b0; try clear c6; try clear p6; try clear q6; try clear hx6; try clear hx605_0; try clear p605; try clear q605
    obtain ⟨x8_1, HA, HK1, HO_7, HO_8, HB⟩ := hrel
    cases gk with
    | zero => exact absurd HA.out (by simp [nat_long.l0])
    | succ k1 =>
     have H := HA.out
     clear HA
     simp only [nat_long.l0] at H
     by_cases c11 : (x8_1.length : Int) ≤ (l0.length : Int)
     ·rw [if_pos c11] at H
      have c11b0 := decide_eq_true c11
      have c11b1 : decide (x8_1.length ≤ l0.length) = true := decide_eq_true (Int.ofNat_le.mp c11)
      clear c11
      by_cases c12 : x8_1.length < 35184372088832
      ·rw [if_pos c12] at H
       have LMc12 := Aside0.mk c12
       clear c12
       obtain ⟨y613, hy613⟩ : ∃ y_ : List Int, y_ = (x8_1 ++ [0]) := ⟨_, rfl⟩
       try rw [← hy613] at H
       have Ny613 := Aside0.mk hy613
       clear hy613
       have H' := Aside0.mk H
       clear H
       obtain ⟨Ao13, co13, eo13⟩ := Kd.R_slice HO_8.out
       subst eo13
       go_wp2_with (first | ((with_reducible refine gate_builtin (b := .append) (xs := #[.tmp 30, .tmp 31]) rfl ?_); at_builtin; refine Kd.R_append (Kd.int .u32) (w0 := w) w.heap.size rfl (.tmp 30) (.tmp 31) 22 42 (.int .u32 0) 4 rfl Try.underlying22 info42 rfl (by decide) (by omega) (.slice Ao13 x8_1.length co13) x8_1 0 [.int .u32 0] (fun k_ => some k_ ≠ (v608 : Value).ownBlock) (fun _ => False) rfl rfl ?aP (fun _ hk => hk.elim) ?aF ?aO ?aB ?aS ?aL ?_; (case aP => exact rfl); (case aB => exact (bU HB)); (case aF => exact (fun k_ hk => Kd.fresh' (Kd.R_lt (rU HO_7)) k_ hk)); (case aO => exact (rU HO_8)); (case aS => exact (below_size (bU HB))); (case aL => have := LMc12.out; omega); intro v614 w14 ho hb hg hat; rw [← Ny613.out] at ho; replace HO_7 := Aside0.mk (Kd.R_after (ok := (fun _ => True)) (by (with_reducible repeat (first | apply Kd.R_alloc | apply Kd.R_drewN | apply Kd.R_drew)); exact Kd.R_mono HO_7.out (fun _ hk => ⟨trivial, hk⟩)) hg hat); replace HB := Aside0.mk (hb); have HO615 := Aside0.mk (ho); clear HO_8; clear ho hb hg hat))
       go_roundg k1
       case measure => have := HK1.out; omega
       case rel => exact ⟨(y613), H', ⟨by have := HK1.out; omega⟩, ⟨by (with_reducible repeat (first | apply Kd.R_alloc | apply Kd.R_drewN | apply Kd.R_drew)); exact Kd.R_mono HO_7.out (fun _ hk => hk.2)⟩, ⟨rU HO615⟩, ⟨bU HB⟩⟩
      ·rw [if_neg c12] at H
       exact absurd H (by simp)
     ·rw [if_neg c11] at H
      have c11b0 := decide_eq_false c11
      have c11b1 : decide (x8_1.length ≤ l0.length) = false := decide_eq_false (fun h => c11 (Int.ofNat_le.mpr h))
      clear c11
      obtain ⟨ji15, hji15⟩ : ∃ j_ : Int, (wrap64 ((x8_1.length : Int) - (t607.length : Int))) = j_ := ⟨_, rfl⟩
      (first | rw [hji15] at H | simp only [hji15] at H)
      have hji15w : (IntKind.i64.wrap ((x8_1.length : Int) - (t607.length : Int))) = ji15 := (i64_w _).trans hji15
      by_cases c16 : 0 ≤ (ji15)
      ·rw [if_pos c16] at H
       have c16b0 := eq_true c16
       have c16b1 := decide_eq_true c16
       clear c16
       by_cases c17 : (ji15 : Int).toNat ≤ 70368744177664
       ·rw [if_pos c17] at H
        have c17b0 := eq_true c17
        have c17b1 := decide_eq_true c17
        clear c17
        replace H := ob H
        obtain ⟨y616, hy616, H⟩ := H
        have Ny616 := Aside0.mk hy616
        clear hy616
        have H' := Aside0.mk H
        clear H
        obtain ⟨Ao18, co18, eo18⟩ := Kd.R_slice HO_8.out
        subst eo18
        obtain ⟨Ao19, co19, eo19⟩ := Kd.R_slice HO_7.out
        subst eo19
        go_wp2_with (first | ((with_reducible refine gate_dst (N := 39) rfl ?_); refine Kd.R_make (Kd.int .u32) _ 42 rfl (N := 39) rfl 22 _ _ rfl ji15 (by first | rfl | (rw [← hji15]; rfl)) (by first | rfl | (rw [← hji15]; rfl)) Try.underlying22 (.int .u32 0) 4 info42 rfl (by decide) (by omega) 0 (ok := fun _ => True) (okp := fun _ => True) rfl (fun _ hk => hk) trivial od (Nat.le_trans (Nat.mul_le_mul_right _ (of_decide_eq_true (by first | (with_reducible assumption) | assumption) : ji15.toNat ≤ 70368744177664)) (by omega)) (Below.refl _ _) (Nat.le_refl _) ?_; intro v617 w20 ho21 hb hg_ hnew_; clear hg_ hnew_; (first | rw [← Ny616.out] at ho21 | (simp only [Int.reduceToNat] at ho21; rw [← Ny616.out] at ho21)); have HO618 := rL (rX (rX ho21 HO_7) HO_8) HB; replace HO_7 := rE HO_7 ho21 hb; replace HO_8 := rE HO_8 ho21 hb; replace HB := bS HB hb; clear hb ho21; obtain ⟨Ao22, co22, rfl⟩ := Kd.R_slice HO618.out))
        go_loopg [11] k1 (fun kq v11 w' => ∃ (x8_2 : List Int) (x10_2 : List Int) (x11_2 : Int), v11 = .int .i64 x11_2 ∧ Aside0 (nat_long.l1 kq t606 t607 x8_2 (t607.length : Int) x10_2 x11_2 = some (r1, r2)) ∧ Aside0 (kq ≤ k1) ∧ Aside0 (Kd.R (Kd.int .u32) 42 w' w.heap.size (fun k_ => some k_ ≠ ((.slice Ao18 x8_1.length co18) : Value).ownBlock ∧ some k_ ≠ ((.slice Ao22 y616.length co22) : Value).ownBlock) (.slice Ao19 t607.length co19) t607) ∧ Aside0 (Kd.R (Kd.int .u32) 42 w' w.heap.size (fun k_ => some k_ ≠ ((.slice Ao19 t607.length co19) : Value).ownBlock ∧ some k_ ≠ ((.slice Ao22 y616.length co22) : Value).ownBlock) (.slice Ao18 x8_1.length co18) x8_2) ∧ Aside0 (Kd.R (Kd.int .u32) 42 w' w.heap.size (fun k_ => some k_ ≠ ((.slice Ao19 t607.length co19) : Value).ownBlock ∧ some k_ ≠ ((.slice Ao18 x8_1.length co18) : Value).ownBlock) (.slice Ao22 y616.length co22) x10_2) ∧ Aside0 (Below w.heap.size w w'))
        case atStart => exact ⟨(x8_1), (y616), (wrap64 ((y616.length : Int) - 1)), es, H', ⟨Nat.le_refl _⟩, ⟨rU HO_7⟩, ⟨rU HO_8⟩, ⟨by (with_reducible repeat (first | apply Kd.R_alloc | apply Kd.R_drewN | apply Kd.R_drew)); exact Kd.R_mono HO618.out (fun _ hk => ⟨hk.1.2, hk.2⟩)⟩, ⟨bU HB⟩⟩
        case round =>
         clear H'
         try clear c1; try clear p2; try clear c4; try clear c4b0; try clear c5; try clear c5b0; try clear c6; try clear p6; try clear q6; try clear hx6; try clear c11; try clear c11b0; try clear c11b1; try clear c12; try clear c16; try clear c16b0; try clear c16b1; try clear c17; try clear c17b0; try clear c17b1; try clear hx605_0; try clear p2; try clear p6; try clear p605; try clear q6; try clear q605
         obtain ⟨x8_2, x10_2, x11_2, rfl, HA, HK2, HO_7, HO_8, HO_10, HB⟩ := hrel
         have hl8_2 := (Kd.R_reads' HO_8.out).1
         rw [hl8_2] at HO_8
         (try simp only [hl8_2])
         (try simp only [hl8_2] at HO_7)
         (try simp only [hl8_2] at HO_10)
         have hl10_2 := (Kd.R_reads' HO_10.out).1
         rw [hl10_2] at HO_10
         (try simp only [hl10_2])
         (try simp only [hl10_2] at HO_7)
         (try simp only [hl10_2] at HO_8)
         cases gk with
         | zero => exact absurd HA.out (by simp [nat_long.l1])
         | succ k2 =>
          have H := HA.out
          clear HA
          simp only [nat_long.l1] at H
          by_cases c23 : x11_2 ≥ 0
          ·rw [if_pos c23] at H
           have c23b0 : decide (0 ≤ x11_2) = true := decide_eq_true c23
           clear c23
           by_cases c24 : 0 ≤ x11_2
           ·rw [if_pos c24] at H
            have c24b0 := eq_true c24
            have c24b1 := decide_eq_true c24
            clear c24
            by_cases c25 : x11_2 ≤ (wrap64 ((wrap64 (x11_2 + (t607.length : Int))) + 1))
            ·rw [if_pos c25] at H
             have c25b0 := eq_true c25
             have c25b1 := decide_eq_true c25
             by_cases c26 : (wrap64 ((wrap64 (x11_2 + (t607.length : Int))) + 1)) ≤ (x8_2.length : Int)
             ·rw [if_pos c26] at H
              have c26b0 := eq_true c26
              have c26b1 := decide_eq_true c26
              obtain ⟨y619, hy619⟩ : ∃ y_ : List Int, y_ = ((x8_2.take ((wrap64 ((wrap64 (x11_2 + (t607.length : Int))) + 1)) : Int).toNat).drop (x11_2 : Int).toNat) := ⟨_, rfl⟩
              try rw [← hy619] at H
              have Ny619 := Aside0.mk hy619
              clear hy619
              replace H := oc H
              obtain ⟨⟨t623, t624⟩, A27, H⟩ := H
              dsimp only at H
              by_cases c28 : x11_2 < (x10_2.length : Int)
              ·rw [if_pos c28] at H
               have c28b0 := decide_eq_true c28
               clear c28
               (try simp only [hl8_2, hl10_2] at c28b0)
               obtain ⟨y625, hy625⟩ : ∃ y_ : List Int, y_ = (x10_2.set (x11_2 : Int).toNat t623) := ⟨_, rfl⟩
               try rw [← hy625] at H
               have Ny625 := Aside0.mk hy625
               clear hy625
               have H' := Aside0.mk H
               clear H
               have q30 : ((wrap64 ((wrap64 (x11_2 + (t607.length : Int))) + 1)) : Int) ≤ ((x8_2.length : Int) : Int) := of_decide_eq_true (by first | (with_reducible assumption) | assumption)
               obtain ⟨i030, hi030, _, hsz30, _⟩ := info_parts info42
               have hroom30 : x8_2.length ≤ co18 := (rN HO_8)
               have hC30 : Kd.C (Kd.int .u32) _ Ao18 x8_2.length x8_2 := (Kd.R_reads' HO_8.out).2.2
               have ql30 : (x11_2 : Int) ≤ ((wrap64 ((wrap64 (x11_2 + (t607.length : Int))) + 1)) : Int) := of_decide_eq_true (by first | (with_reducible assumption) | assumption)
               have q030 : (0 : Int) ≤ (x11_2 : Int) := of_decide_eq_true (by first | (with_reducible assumption) | assumption)
               have hcut30 := cut_mid (P := Try.prog) 22 42 .i64 .i64 Try.underlying22 hi030 1 hsz30 Ao18 x8_2.length co18 x11_2 (wrap64 ((wrap64 (x11_2 + (t607.length : Int))) + 1)) q030 ql30 q30 hroom30
               have hr30 := Kd.C_mid (lo := (x11_2 : Int).toNat) (hi := ((wrap64 ((wrap64 (x11_2 + (t607.length : Int))) + 1)) : Int).toNat) (c := co18) hC30 (by omega) (by omega) hroom30
               obtain ⟨A30, hA30⟩ : ∃ A1, A1 = (if co18 = (x11_2 : Int).toNat then Ao18 else (Ao18 : Option Addr).map (·.add ((x11_2 : Int).toNat * 1))) := ⟨_, rfl⟩
               obtain ⟨c30, hc30⟩ : ∃ c1, c1 = co18 - (x11_2 : Int).toNat := ⟨_, rfl⟩
               have hy30 : y619.length = ((wrap64 ((wrap64 (x11_2 + (t607.length : Int))) + 1)) : Int).toNat - (x11_2 : Int).toNat := (by rw [Ny619.out, List.length_drop, List.length_take] <;> omega)
               rw [show ((x8_2).take ((wrap64 ((wrap64 (x11_2 + (t607.length : Int))) + 1)) : Int).toNat).drop (x11_2 : Int).toNat = y619 from Ny619.out.symm] at hr30
               replace hr30 : Kd.C (Kd.int .u32) _ A30 y619.length y619 := (by rw [hA30]; exact hr30)
               rw [← hy30, ← hA30, ← hc30] at hcut30
               have HR622 := Aside0.mk hr30
               have HC622 := Aside0.mk (show y619.length ≤ c30 from by rw [hy30, hc30]; exact Nat.sub_le_sub_right (Nat.le_trans (by omega) hroom30) _)
               have KC30 := Aside0.mk hc30
               clear hr30 hC30 hroom30 hi030 hsz30 hc30
               have KY30 := Aside0.mk hy30
               have KA30 := Aside0.mk hA30
               clear hy30 hA30
               have KL30 := Aside0.mk (show ((wrap64 ((wrap64 (x11_2 + (t607.length : Int))) + 1)) : Int).toNat ≤ x8_2.length from by omega)
               have KM30 := Aside0.mk (show (x11_2 : Int).toNat ≤ ((wrap64 ((wrap64 (x11_2 + (t607.length : Int))) + 1)) : Int).toNat from by omega)
               replace q30 := eq_true q30
               go_wp2_with (first | ((with_reducible refine gc 66 rfl ?_); refine gL (some 57) Try.func66 #[.slice A30 y619.length c30, .slice Ao19 t607.length co19] ?_; (with_reducible refine (nat_stepAt.calls k2 (fun k_ => some k_ = (.slice Ao18 x8_2.length co18 : Value).ownBlock) (.slice Ao18 x8_2.length co18) x8_2 _ _ t607 x11_2 (wrap64 ((wrap64 (x11_2 + (t607.length : Int))) + 1)) t623 t624 w _ ?side1 ?side2 ?side3 ?side4 A27.out (by simp only [cutv_, KA30.out, KC30.out, KY30.out])).mono ?_); (case side1 => exact bU HB); (case side2 => exact Kd.R_tight rfl HO_8.out); (case side3 => exact Kd.C_kept_own (HO_7.out) (fun k_ hk_ hs_ => (hk_.1) hs_)); (case side4 => exact rN HO_7); rintro e w31 ⟨rfl, hy0, hb, hkp⟩; refine ⟨_, rfl, ?_⟩; replace HO_7 := Aside0.mk (Kd.R_mono (ok' := fun k_ => some k_ ≠ (.slice Ao18 x8_2.length co18 : Value).ownBlock ∧ some k_ ≠ (.slice Ao22 x10_2.length co22 : Value).ownBlock) (Kd.R_keptB (HO_7.out) hkp (fun k_ hk_ hs_ => (hk_.1) hs_)) (fun k_ hk_ => ⟨hk_.1.1, hk_.1.2⟩)); replace HO_8 := Aside0.mk (Kd.R_reok rfl hy0 (fun k_ e_ => HO_8.out.1 k_ e_)); replace HO_10 := Aside0.mk (Kd.R_mono (ok' := fun k_ => some k_ ≠ (.slice Ao19 t607.length co19 : Value).ownBlock ∧ some k_ ≠ (.slice Ao18 x8_2.length co18 : Value).ownBlock) (Kd.R_keptB (HO_10.out) hkp (fun k_ hk_ hs_ => (hk_.2) hs_)) (fun k_ hk_ => ⟨hk_.1.1, hk_.1.2⟩)); replace HB := Aside0.mk (hb); clear hb hkp hy0; have p29 : 0 ≤ (x11_2 : Int) := of_decide_eq_true (by first | (with_reducible assumption) | assumption); have q29 : (x11_2 : Int) < ((x10_2.length : Int) : Int) := of_decide_eq_true (by first | (with_reducible assumption) | assumption); obtain ⟨go29, co29, eo29, gb29, gl29, cl29, HG29⟩ := Kd.R_form HO_10.out (by omega); (first | cases eo29 | (injection eo29 with ea_ en_ ec_; (first | subst ea_ | (injection ea_ with ea_; subst ea_)); subst ec_; clear en_)); have GB29 := Aside0.mk gb29; have GG29 := Aside0.mk HG29; clear gb29 gl29 HG29; obtain ⟨hx29_0, hf29_0⟩ := Kd.R_celln 0 HO_10.out (x11_2 : Int) p29 q29; replace p29 := eq_true p29; replace q29 := eq_true q29; obtain ⟨hy32_, hz32_⟩ := Kd.R_celln 0 HO_10.out (x11_2 : Int) od od; have HP32 := Kd.R_putg HO_10.out (x11_2 : Int) t623) | ((with_reducible refine gate_store (t := 42) (p := 58) rfl ?_); refine store_event (t := 42) (p := 58) (v := ?vo_w33) (w1 := (w31.setCell ⟨go29, (x11_2 : Int).toNat, none⟩ (.int .u32 t623))) ?hg ?ho ?hn ?hr ?_; (case ho => rfl); (case hg => rfl); (case hn => rfl); (case hr => first | (go_simp; done) | (go_simp; rfl)); intro w33 hw; have hg : w31.grownBy w33 (some go29) := (by rw [hw]; exact HP32.2); have hp_ : Kd.R (Kd.int .u32) 42 w33 w.heap.size (fun k_ => some k_ ≠ (.slice Ao19 t607.length co19 : Value).ownBlock ∧ some k_ ≠ (.slice Ao18 x8_2.length co18 : Value).ownBlock) (.slice (some ⟨go29, 0, none⟩) x10_2.length co22) y625 := (by rw [hw, Ny625.out]; exact HP32.1); clear HP32; replace HO_7 := Aside0.mk (Kd.R_after (v := (.slice (some ⟨go29, 0, none⟩) x10_2.length co22)) (v1 := (.slice (some ⟨go29, 0, none⟩) x10_2.length co22)) (ok := (fun k_ => some k_ ≠ (.slice Ao18 x8_2.length co18 : Value).ownBlock)) (rU HO_7) hg (.inl rfl)); replace HO_8 := Aside0.mk (Kd.R_after (v := (.slice (some ⟨go29, 0, none⟩) x10_2.length co22)) (v1 := (.slice (some ⟨go29, 0, none⟩) x10_2.length co22)) (ok := (fun k_ => some k_ ≠ (.slice Ao19 t607.length co19 : Value).ownBlock)) (rU HO_8) hg (.inl rfl)); replace HO_10 := Aside0.mk (hp_); replace HB := Aside0.mk ((by rw [hw]; exact below_set (HB.out) GB29.out : Below w.heap.size w w33)); clear hg hw hp_))
               (try simp only [← hl8_2, ← hl10_2])
               go_roundg k2
               case measure => have := HK1.out; have := HK2.out; omega
               case rel => exact ⟨(t624), (y625), (wrap64 (x11_2 - 1)), es, H', ⟨by have := HK1.out; have := HK2.out; omega⟩, ⟨by (try simp only [hl8_2]); (try simp only [hl10_2]); (with_reducible repeat (first | apply Kd.R_alloc | apply Kd.R_drewN | apply Kd.R_drew)); exact HO_7.out⟩, ⟨by (try simp only [hl8_2]); (try simp only [hl10_2]); (with_reducible repeat (first | apply Kd.R_alloc | apply Kd.R_drewN | apply Kd.R_drew)); exact HO_8.out⟩, ⟨by (try simp only [hl8_2]); (try simp only [hl10_2]); (with_reducible repeat (first | apply Kd.R_alloc | apply Kd.R_drewN | apply Kd.R_drew)); exact HO_10.out⟩, ⟨bU HB⟩⟩
              ·rw [if_neg c28] at H
               exact absurd H (by simp)
             ·rw [if_neg c26] at H
              exact absurd H (by simp)
            ·rw [if_neg c25] at H
             exact absurd H (by simp)
           ·rw [if_neg c24] at H
            exact absurd H (by simp)
          ·rw [if_neg c23] at H
           have c23b0 : decide (0 ≤ x11_2) = false := decide_eq_false c23
           clear c23
           replace H := oc H
           obtain ⟨t626, A34, H⟩ := H
           by_cases c35 : 0 ≤ (t607.length : Int)
           ·rw [if_pos c35] at H
            have c35b0 := eq_true c35
            have c35b1 := decide_eq_true c35
            clear c35
            by_cases c36 : (t607.length : Int) ≤ (x8_2.length : Int)
            ·rw [if_pos c36] at H
             have c36b0 := eq_true c36
             have c36b1 := decide_eq_true c36
             clear c36
             obtain ⟨y629, hy629⟩ : ∃ y_ : List Int, y_ = (x8_2.take ((t607.length : Int) : Int).toNat) := ⟨_, rfl⟩
             try rw [← hy629] at H
             have Ny629 := Aside0.mk hy629
             clear hy629
             replace H := oc H
             obtain ⟨t632, A37, H⟩ := H
             replace H := oc H
             obtain ⟨t635, A38, H⟩ := H
             replace H := oc H
             obtain ⟨t638, A39, H⟩ := H
             simp only [Option.some.injEq, Prod.mk.injEq] at H
             obtain ⟨rfl, rfl⟩ := H
             try go_wp2
             have n0_ := Aside0.mk (Kd.R_drew HO_7.out)
             have n1_ := Aside0.mk (Kd.R_drew HO_8.out)
             have n2_ := Aside0.mk (Kd.R_drew HO_10.out)
             have n3_ := Aside0.mk (below_drew1 HB.out)
             clear HO_7
             clear HO_8
             clear HO_10
             clear HB
             have HO_7 := n0_
             have HO_8 := n1_
             have HO_10 := n2_
             have HB := n3_
             clear n0_ n1_ n2_ n3_
             have q41 : ((t607.length : Int) : Int) ≤ ((x8_2.length : Int) : Int) := of_decide_eq_true (by first | (with_reducible assumption) | assumption)
             obtain ⟨i041, hi041, _, hsz41, _⟩ := info_parts info42
             have hcut41 := cut_to (P := Try.prog) 22 42 .i64 Try.underlying22 hi041 Ao18 x8_2.length co18 (t607.length : Int) od q41 (rN HO_8)
             have hr41 := Kd.R_take (m := ((t607.length : Int) : Int).toNat) HO_8.out (by omega)
             have hy41 : y629.length = ((t607.length : Int) : Int).toNat := (by rw [Ny629.out, List.length_take]; omega)
             rw [← Ny629.out] at hr41
             rw [← hy41] at hr41 hcut41
             clear hy41 hi041 hsz41 HO_8
             have HO631 := Aside0.mk hr41
             clear hr41
             replace q41 := eq_true q41
             (try simp only [own_len Ao18 x8_2.length y629.length co18] at HO_7)
             (try simp only [own_len Ao18 x8_2.length y629.length co18] at HO_10)
             refine start_ (n := 11) (S := fun w' => True) (ds := []) #[false, false, false, false, false, false, false, false, false, false, false] (by kernel_rfl) rfl rfl trivial (fun hHeld => ?_); refine with_tabW nat_long.tab12 nat_long.bits12 (fun HT_ HW_ => ?_)
             generalize wr.drew = w40 at HO_7 HO_8 HO_10 HB HO631 hHeld ⊢
             refine pure_ (i := 0) (N := some 59) (v := ?_) (a' := ?_) #[true, false, false, false, false, false, false, false, false, false, false] rfl rfl (any_of HT_.out (by kernel_rfl)) (fun _ _ _ h => h) (Or.inl ⟨by rfl, ?_⟩) ?_ ?_
             rotate_left
             ·intro w'
              go_simp
              with_reducible rfl
             rotate_left
             ·simp only [Act.put, List.setIfInBounds_toArray, List.set_cons_zero, List.set_cons_succ, i64_w, i32_w]
              rfl
             refine pure_ (i := 2) (N := some 61) (v := ?_) (a' := ?_) #[true, false, true, false, false, false, false, false, false, false, false] rfl rfl (any_of HT_.out (by kernel_rfl)) (fun _ _ _ h => h) (Or.inl ⟨by rfl, ?_⟩) ?_ ?_
             rotate_left
             ·intro w'
              go_simp
              with_reducible rfl
             rotate_left
             ·simp only [Act.put, List.setIfInBounds_toArray, List.set_cons_zero, List.set_cons_succ, i64_w, i32_w]
              rfl
             refine pure_ (i := 3) (N := some 62) (v := ?_) (a' := ?_) #[true, false, true, true, false, false, false, false, false, false, false] rfl rfl (any_of HT_.out (by kernel_rfl)) (fun _ _ _ h => h) (Or.inl ⟨by rfl, ?_⟩) ?_ ?_
             rotate_left
             ·intro w'
              go_simp
              with_reducible rfl
             rotate_left
             ·simp only [Act.put, List.setIfInBounds_toArray, List.set_cons_zero, List.set_cons_succ, i64_w, i32_w]
              rfl
             refine pure_ (i := 4) (N := some 63) (v := ?_) (a' := ?_) #[true, false, true, true, true, false, false, false, false, false, false] rfl rfl (any_of HT_.out (by kernel_rfl)) (fun _ _ _ h => h) (Or.inl ⟨by rfl, ?_⟩) ?_ ?_
             rotate_left
             ·intro w'
              go_simp
              with_reducible rfl
             rotate_left
             ·simp only [Act.put, List.setIfInBounds_toArray, List.set_cons_zero, List.set_cons_succ, i64_w, i32_w]
              rfl
             refine pure_ (i := 6) (N := some 65) (v := ?_) (a' := ?_) #[true, false, true, true, true, false, true, false, false, false, false] rfl rfl (any_of HT_.out (by kernel_rfl)) (fun _ _ _ h => h) (Or.inl ⟨by rfl, ?_⟩) ?_ ?_
             rotate_left
             ·intro w'
              go_simp
              with_reducible rfl
             rotate_left
             ·simp only [Act.put, List.setIfInBounds_toArray, List.set_cons_zero, List.set_cons_succ, i64_w, i32_w]
              rfl
             refine one_ (i := 1) (N := some 60) #[true, true, true, true, true, false, true, false, false, false, false] rfl rfl (one_of HT_.out (by kernel_rfl)) (by decide) (fun K hK => ?_)
             refine goes_ Try.func41 (by kernel_rfl) rfl #[.slice Ao22 x10_2.length co22] (by rfl) rfl rfl (by (try simp only [List.map_toArray, List.map_cons, List.map_nil]); first | done | rfl | (simp only [List.length_drop, List.length_take]; rfl)) ?_
             with_reducible refine (nat_trim.calls k2 (fun k_ => some k_ = (.slice Ao22 x10_2.length co22 : Value).ownBlock) (.slice Ao22 x10_2.length co22) x10_2 t626 w _ ?side1 ?side2 A34.out).mono ?_
             (case side1 => exact bU HB)
             (case side2 => exact Kd.R_tight rfl HO_10.out)
             rintro e w42 ⟨v627, rfl, ho0, hb, hkp⟩
             refine ⟨_, rfl, ?_⟩
             have n0_ := Aside0.mk (Kd.R_mono (ok' := fun k_ => some k_ ≠ (.slice Ao18 y629.length co18 : Value).ownBlock ∧ some k_ ≠ (v627 : Value).ownBlock) (Kd.R_keptB (HO_7.out) hkp (fun k_ hk_ hs_ => (hk_.2) hs_)) (fun k_ hk_ => ⟨hk_.1.1, fun e_ => Or.elim (ho0.1 k_ e_.symm) (fun hs_ => hk_.2.1 hs_) (fun hn_ => Nat.not_le.2 hk_.2.2 hn_)⟩))
             have n1_ := Aside0.mk (Kd.R_mono (ok' := fun k_ => some k_ ≠ (.slice Ao19 t607.length co19 : Value).ownBlock ∧ some k_ ≠ (v627 : Value).ownBlock) (Kd.R_keptB (HO631.out) hkp (fun k_ hk_ hs_ => (hk_.2) hs_)) (fun k_ hk_ => ⟨hk_.1.1, fun e_ => Or.elim (ho0.1 k_ e_.symm) (fun hs_ => hk_.2.1 hs_) (fun hn_ => Nat.not_le.2 hk_.2.2 hn_)⟩))
             have n2_ := Aside0.mk (Kd.R_mono (ok' := fun k_ => some k_ ≠ (.slice Ao19 t607.length co19 : Value).ownBlock ∧ some k_ ≠ (.slice Ao18 y629.length co18 : Value).ownBlock) ho0 (fun k_ hk_ => ⟨Or.elim hk_ (fun hs_ => fun e_ => (((HO_7.out).1 k_ e_.symm).2) hs_) (fun hn_ => (Kd.fresh' (Kd.R_lt (rU HO_7)) k_ hn_)), Or.elim hk_ (fun hs_ => fun e_ => (((HO631.out).1 k_ e_.symm).2) hs_) (fun hn_ => (Kd.fresh' (Kd.R_lt (rU HO631)) k_ hn_))⟩))
             have n3_ := Aside0.mk (hb)
             clear HO_7
             clear HO631
             clear HB
             clear HO_10
             have HO_7 := n0_
             have HO631 := n1_
             have HO628 := n2_
             have HB := n3_
             clear n0_ n1_ n2_ n3_
             (try clear hb)
             (try clear hkp)
             (try clear ho0)
             refine hK.out _ _ trivial (fun hHeld => ?_)
             clear hK K
             refine norm_ (a' := ?_) ?_ ?_
             rotate_left
             ·show Act.put _ (some 60) _ = _
              simp only [Act.put, List.setIfInBounds_toArray, List.set_cons_zero, List.set_cons_succ, i64_w, i32_w]
              rfl
             refine one_ (i := 5) (N := some 64) #[true, true, true, true, true, true, true, false, false, false, false] rfl rfl (one_of HT_.out (by kernel_rfl)) (by decide) (fun K hK => ?_)
             refine goes_ Try.func41 (by kernel_rfl) rfl #[.slice Ao18 y629.length co18] (by rfl) rfl rfl (by (try simp only [List.map_toArray, List.map_cons, List.map_nil]); first | done | rfl | (simp only [List.length_drop, List.length_take]; rfl)) ?_
             with_reducible refine (nat_trim.calls k2 (fun k_ => some k_ = (.slice Ao18 y629.length co18 : Value).ownBlock) (.slice Ao18 y629.length co18) y629 t632 w _ ?side1 ?side2 A37.out).mono ?_
             (case side1 => exact bU HB)
             (case side2 => exact Kd.R_tight rfl HO631.out)
             rintro e w43 ⟨v633, rfl, ho0, hb, hkp⟩
             refine ⟨_, rfl, ?_⟩
             have n0_ := Aside0.mk (Kd.R_mono (ok' := fun k_ => some k_ ≠ (v627 : Value).ownBlock ∧ some k_ ≠ (v633 : Value).ownBlock) (Kd.R_keptB (HO_7.out) hkp (fun k_ hk_ hs_ => (hk_.1) hs_)) (fun k_ hk_ => ⟨hk_.1.2, fun e_ => Or.elim (ho0.1 k_ e_.symm) (fun hs_ => hk_.2.1 hs_) (fun hn_ => Nat.not_le.2 hk_.2.2 hn_)⟩))
             have n1_ := Aside0.mk (Kd.R_mono (ok' := fun k_ => some k_ ≠ (.slice Ao19 t607.length co19 : Value).ownBlock ∧ some k_ ≠ (v633 : Value).ownBlock) (Kd.R_keptB (HO628.out) hkp (fun k_ hk_ hs_ => (hk_.2) hs_)) (fun k_ hk_ => ⟨hk_.1.1, fun e_ => Or.elim (ho0.1 k_ e_.symm) (fun hs_ => hk_.2.1 hs_) (fun hn_ => Nat.not_le.2 hk_.2.2 hn_)⟩))
             have n2_ := Aside0.mk (Kd.R_mono (ok' := fun k_ => some k_ ≠ (.slice Ao19 t607.length co19 : Value).ownBlock ∧ some k_ ≠ (v627 : Value).ownBlock) ho0 (fun k_ hk_ => ⟨Or.elim hk_ (fun hs_ => fun e_ => (((HO_7.out).1 k_ e_.symm).1) hs_) (fun hn_ => (Kd.fresh' (Kd.R_lt (rU HO_7)) k_ hn_)), Or.elim hk_ (fun hs_ => fun e_ => (((HO628.out).1 k_ e_.symm).2) hs_) (fun hn_ => (Kd.fresh' (Kd.R_lt (rU HO628)) k_ hn_))⟩))
             have n3_ := Aside0.mk (hb)
             clear HO_7
             clear HO628
             clear HB
             clear HO631
             have HO_7 := n0_
             have HO628 := n1_
             have HO634 := n2_
             have HB := n3_
             clear n0_ n1_ n2_ n3_
             (try clear hb)
             (try clear hkp)
             (try clear ho0)
             obtain ⟨Ao44, co44, eo44⟩ := Kd.R_slice HO634.out
             (first | subst eo44 | (injection eo44 with f1_ f2_ f3_; have f4_ := f1_.symm; have f5_ := f3_.symm; clear f1_ f2_ f3_; subst f4_; subst f5_))
             refine hK.out _ _ trivial (fun hHeld => ?_)
             clear hK K
             refine norm_ (a' := ?_) ?_ ?_
             rotate_left
             ·show Act.put _ (some 64) _ = _
              simp only [Act.put, List.setIfInBounds_toArray, List.set_cons_zero, List.set_cons_succ, i64_w, i32_w]
              rfl
             refine one_ (i := 7) (N := some 66) #[true, true, true, true, true, true, true, true, false, false, false] rfl rfl (one_of HT_.out (by kernel_rfl)) (by decide) (fun K hK => ?_)
             refine goes_ Try.func60 (by kernel_rfl) rfl #[.slice Ao44 t632.length co44, .int .i64 t606] (by rfl) rfl rfl (by (try simp only [List.map_toArray, List.map_cons, List.map_nil]); first | done | rfl | (simp only [List.length_drop, List.length_take]; rfl)) ?_
             with_reducible refine (nat_down.calls k2 _ _ t632 t606 t635 _ ?side1 ?side2 A38.out).mono ?_
             (case side1 => exact rC HO634)
             (case side2 => exact rN HO634)
             rintro e w45 ⟨v636, rfl, ho0, hb⟩
             refine ⟨_, rfl, ?_⟩
             have n0_ := rE HO_7 ho0 hb
             have n1_ := rE HO628 ho0 hb
             have n2_ := rE HO634 ho0 hb
             have n3_ := rL (rX (rX (rX ho0 HO_7) HO628) HO634) HB
             have n4_ := bS HB hb
             clear HO_7
             clear HO628
             clear HO634
             clear HB
             have HO_7 := n0_
             have HO628 := n1_
             have HO634 := n2_
             have HO637 := n3_
             have HB := n4_
             clear n0_ n1_ n2_ n3_ n4_
             (try clear hb)
             (try clear hb2)
             (try clear hk)
             (try clear hi)
             (try clear ho0)
             obtain ⟨Ao46, co46, eo46⟩ := Kd.R_slice HO637.out
             (first | subst eo46 | (injection eo46 with f1_ f2_ f3_; have f4_ := f1_.symm; have f5_ := f3_.symm; clear f1_ f2_ f3_; subst f4_; subst f5_))
             refine hK.out _ _ trivial (fun hHeld => ?_)
             clear hK K
             refine norm_ (a' := ?_) ?_ ?_
             rotate_left
             ·show Act.put _ (some 66) _ = _
              simp only [Act.put, List.setIfInBounds_toArray, List.set_cons_zero, List.set_cons_succ, i64_w, i32_w]
              rfl
             refine one_ (i := 8) (N := some 67) #[true, true, true, true, true, true, true, true, true, false, false] rfl rfl (one_of HT_.out (by kernel_rfl)) (by decide) (fun K hK => ?_)
             refine goes_ Try.func41 (by kernel_rfl) rfl #[.slice Ao46 t635.length co46] (by rfl) rfl rfl (by (try simp only [List.map_toArray, List.map_cons, List.map_nil]); first | done | rfl | (simp only [List.length_drop, List.length_take]; rfl)) ?_
             with_reducible refine (nat_trim.calls k2 (fun k_ => some k_ = (.slice Ao46 t635.length co46 : Value).ownBlock) (.slice Ao46 t635.length co46) t635 t638 w _ ?side1 ?side2 A39.out).mono ?_
             (case side1 => exact bU HB)
             (case side2 => exact Kd.R_tight rfl HO637.out)
             rintro e w47 ⟨v639, rfl, ho0, hb, hkp⟩
             refine ⟨_, rfl, ?_⟩
             have n0_ := Aside0.mk (Kd.R_mono (ok' := fun k_ => some k_ ≠ (v627 : Value).ownBlock ∧ some k_ ≠ (.slice Ao44 t632.length co44 : Value).ownBlock ∧ some k_ ≠ (v639 : Value).ownBlock) (Kd.R_keptB (HO_7.out) hkp (fun k_ hk_ hs_ => (hk_.2) hs_)) (fun k_ hk_ => ⟨hk_.1.1.1, hk_.1.1.2, fun e_ => Or.elim (ho0.1 k_ e_.symm) (fun hs_ => hk_.2.1 hs_) (fun hn_ => Nat.not_le.2 hk_.2.2 hn_)⟩))
             have n1_ := Aside0.mk (Kd.R_mono (ok' := fun k_ => some k_ ≠ (.slice Ao19 t607.length co19 : Value).ownBlock ∧ some k_ ≠ (.slice Ao44 t632.length co44 : Value).ownBlock ∧ some k_ ≠ (v639 : Value).ownBlock) (Kd.R_keptB (HO628.out) hkp (fun k_ hk_ hs_ => (hk_.2) hs_)) (fun k_ hk_ => ⟨hk_.1.1.1, hk_.1.1.2, fun e_ => Or.elim (ho0.1 k_ e_.symm) (fun hs_ => hk_.2.1 hs_) (fun hn_ => Nat.not_le.2 hk_.2.2 hn_)⟩))
             have n2_ := Aside0.mk (Kd.R_mono (ok' := fun k_ => some k_ ≠ (.slice Ao19 t607.length co19 : Value).ownBlock ∧ some k_ ≠ (v627 : Value).ownBlock ∧ some k_ ≠ (v639 : Value).ownBlock) (Kd.R_keptB (HO634.out) hkp (fun k_ hk_ hs_ => (hk_.2) hs_)) (fun k_ hk_ => ⟨hk_.1.1.1, hk_.1.1.2, fun e_ => Or.elim (ho0.1 k_ e_.symm) (fun hs_ => hk_.2.1 hs_) (fun hn_ => Nat.not_le.2 hk_.2.2 hn_)⟩))
             have n3_ := Aside0.mk (Kd.R_mono (ok' := fun k_ => some k_ ≠ (.slice Ao19 t607.length co19 : Value).ownBlock ∧ some k_ ≠ (v627 : Value).ownBlock ∧ some k_ ≠ (.slice Ao44 t632.length co44 : Value).ownBlock) ho0 (fun k_ hk_ => ⟨Or.elim hk_ (fun hs_ => fun e_ => (((HO_7.out).1 k_ e_.symm).2) hs_) (fun hn_ => (Kd.fresh' (Kd.R_lt (rU HO_7)) k_ hn_)), Or.elim hk_ (fun hs_ => fun e_ => (((HO628.out).1 k_ e_.symm).2) hs_) (fun hn_ => (Kd.fresh' (Kd.R_lt (rU HO628)) k_ hn_)), Or.elim hk_ (fun hs_ => fun e_ => (((HO634.out).1 k_ e_.symm).2) hs_) (fun hn_ => (Kd.fresh' (Kd.R_lt (rU HO634)) k_ hn_))⟩))
             have n4_ := Aside0.mk (hb)
             clear HO_7
             clear HO628
             clear HO634
             clear HB
             clear HO637
             have HO_7 := n0_
             have HO628 := n1_
             have HO634 := n2_
             have HO640 := n3_
             have HB := n4_
             clear n0_ n1_ n2_ n3_ n4_
             (try clear hb)
             (try clear hkp)
             (try clear ho0)
             refine hK.out _ _ trivial (fun hHeld => ?_)
             clear hK K
             refine norm_ (a' := ?_) ?_ ?_
             rotate_left
             ·show Act.put _ (some 67) _ = _
              simp only [Act.put, List.setIfInBounds_toArray, List.set_cons_zero, List.set_cons_succ, i64_w, i32_w]
              rfl
             refine pure_ (i := 9) (N := some 4) (v := ?_) (a' := ?_) #[true, true, true, true, true, true, true, true, true, true, false] rfl rfl (any_of HT_.out (by kernel_rfl)) (fun _ _ _ h => h) (Or.inl ⟨by rfl, ?_⟩) ?_ ?_
             rotate_left
             ·intro w'
              go_simp
              with_reducible rfl
             rotate_left
             ·simp only [Act.put, List.setIfInBounds_toArray, List.set_cons_zero, List.set_cons_succ, i64_w, i32_w]
              rfl
             refine pure_ (i := 10) (N := some 5) (v := ?_) (a' := ?_) #[true, true, true, true, true, true, true, true, true, true, true] rfl rfl (any_of HT_.out (by kernel_rfl)) (fun _ _ _ h => h) (Or.inl ⟨by rfl, ?_⟩) ?_ ?_
             rotate_left
             ·intro w'
              go_simp
              with_reducible rfl
             rotate_left
             ·simp only [Act.put, List.setIfInBounds_toArray, List.set_cons_zero, List.set_cons_succ, i64_w, i32_w]
              rfl
             refine done_ (done_of HT_.out (by kernel_rfl)) ?_
             try go_wp2
             go_ret2
             exact ⟨_, _, by first | rfl | (simp [errW_none, errW_some] <;> rfl) | (simp only [← hji3, ← hji15]; first | rfl | (simp [errW_none, errW_some] <;> rfl)) | (simp [*, errW_none, errW_some] <;> rfl), by (with_reducible repeat (first | apply Kd.R_alloc | apply Kd.R_drewN | apply Kd.R_drew)); exact Kd.R_mono HO628.out (fun _ hk => hk.2.2), by (with_reducible repeat (first | apply Kd.R_alloc | apply Kd.R_drewN | apply Kd.R_drew)); exact Kd.R_mono HO640.out (fun _ hk => hk.2.1), bU HB⟩
            ·rw [if_neg c36] at H
             exact absurd H (by simp)
           ·rw [if_neg c35] at H
            exact absurd H (by simp)
       ·rw [if_neg c17] at H
        exact absurd H (by simp)
      ·rw [if_neg c16] at H
       exact absurd H (by simp)
  ·rw [if_neg c5] at H
   exact absurd H (by simp)
 ·rw [if_neg c4] at H
  exact absurd H (by simp)

end Go.Proofs.Ytldcelgbinenbaa.Px

namespace Go.Proofs.Ytldcelgbinenbaa.Px
open Go.RowKit Go.Proofs.YtldcelgbinenbaaW.PrintWords Go.Proofs.YtldcelgbinenbaaW.PrintLast Go.Proofs.YtldcelgbinenbaaW.PrintMore
attribute [local go_sem] max2_int min2_int max_two min_two max_three min_three max_four min_four   -- for this text's walks alone
set_option linter.unusedVariables false
set_option linter.unusedSimpArgs false

/-! ### nat_QuoRem: function 36 -/
def nat_QuoRem.f (k : Nat) (l0 : List Int) (l1 : List Int) : Option (List Int × List Int × Int) := (nat_all.f k (([l0, l1] : List (List Int)))).bind fun t644 => (if t644 = true then (if (l1.length : Int) = 0 then (some (([] : List Int), ([] : List Int), 11)) else ((nat_cmp.f k l0 l1).bind fun t645 => (if t645 < 0 then (if ([] : List Int).length + l0.length < 35184372088832 then (some (([] : List Int), (([] : List Int) ++ l0), 0)) else (none)) else (if (l1.length : Int) = 1 then (if 0 < (l1.length : Int) then ((nat_small.f k l0 (rd l1 0)).bind fun bt650 => ((nat_trim.f k (([bt650.2] : List Int))).bind fun t657 => (some (bt650.1, t657, 0)))) else (none)) else ((nat_long.f k l0 l1).bind fun bt660 => (some (bt660.1, bt660.2, 0))))))) else (some (([] : List Int), ([] : List Int), 2)))
theorem nat_QuoRem.mono : ∀ a0 a1 k, LeO (nat_QuoRem.f k a0 a1) (nat_QuoRem.f (k + 1) a0 a1) := by
 intro a0 a1 k
 unfold nat_QuoRem.f
 repeat' (with_reducible first | exact nat_all.mono _ _ | exact nat_cmp.mono _ _ _ | exact nat_long.mono _ _ _ | exact nat_small.mono _ _ _ | exact nat_trim.mono _ _ | exact LeO.refl _ | exact LeO.none _ | refine LeO.ite ?_ ?_ | refine LeO.bind ?_ (fun _ => ?_))
set_option maxHeartbeats 8000000 in
set_option maxRecDepth 100000 in
theorem nat_QuoRem.calls (k : Nat) (P0_ : Nat → Prop) (A0 : Option Addr) (c0 : Nat) (l0 : List Int) (P1_ : Nat → Prop) (A1 : Option Addr) (c1 : Nat) (l1 : List Int) (r1 : List Int) (r2 : List Int) (r3 : Int) (w : World) (hs0 : Kd.V (Kd.int .u32) 42 w w.heap.size (fun k_ => P0_ k_) (.slice A0 l0.length c0) l0) (hs1 : Kd.V (Kd.int .u32) 42 w w.heap.size (fun k_ => P1_ k_) (.slice A1 l1.length c1) l1) (h : nat_QuoRem.f k l0 l1 = some (r1, r2, r3)) :
  Calls Try.prog 36 #[.slice A0 l0.length c0, .slice A1 l1.length c1] w fun e w' => ∃ v0_ v1_ : Value, e = .returned (.tuple #[v0_, v1_, .int .i64 r3]) ∧ Kd.R (Kd.int .u32) 42 w' w.heap.size (fun k_ => (w.heap.size ≤ k_) ∧ some k_ ≠ (v1_ : Value).ownBlock) v0_ r1 ∧ Kd.R (Kd.int .u32) 42 w' w.heap.size (fun k_ => (w.heap.size ≤ k_) ∧ some k_ ≠ (v0_ : Value).ownBlock) v1_ r2 ∧ Below w.heap.size w w' := by
 have HO0 := Aside0.mk (show Kd.V (Kd.int .u32) 42 w w.heap.size (fun k_ => ((P0_ k_ ∨ P1_ k_) ∨ w.heap.size ≤ k_)) (.slice A0 l0.length c0) l0 from Kd.V_mono hs0 (fun k_ hk => .inl (.inl hk)))
 have HO1 := Aside0.mk (show Kd.V (Kd.int .u32) 42 w w.heap.size (fun k_ => ((P0_ k_ ∨ P1_ k_) ∨ w.heap.size ≤ k_)) (.slice A1 l1.length c1) l1 from Kd.V_mono hs1 (fun k_ hk => .inl (.inr hk)))
 have HB := Aside0.mk (Below.refl w.heap.size w)
 have H := h
 unfold nat_QuoRem.f at H
 clear h
 obtain ⟨y641, hy641⟩ : ∃ y_ : List (List Int), y_ = (([l0, l1] : List (List Int))) := ⟨_, rfl⟩
 replace H : ((nat_all.f k y641).bind fun t644 => (if t644 = true then (if (l1.length : Int) = 0 then (some (([] : List Int), ([] : List Int), 11)) else ((nat_cmp.f k l0 l1).bind fun t645 => (if t645 < 0 then (if ([] : List Int).length + l0.length < 35184372088832 then (some (([] : List Int), (([] : List Int) ++ l0), 0)) else (none)) else (if (l1.length : Int) = 1 then (if 0 < (l1.length : Int) then ((nat_small.f k l0 (rd l1 0)).bind fun bt650 => ((nat_trim.f k (([bt650.2] : List Int))).bind fun t657 => (some (bt650.1, t657, 0)))) else (none)) else ((nat_long.f k l0 l1).bind fun bt660 => (some (bt660.1, bt660.2, 0))))))) else (some (([] : List Int), ([] : List Int), 2)))) = some (r1, r2, r3) := by first | (rw [hy641]; with_reducible exact H) | (have H2_ := (Option.bind_some _ _).symm.trans H; rw [hy641]; with_reducible exact H2_) | (have H2_ := (Option.bind_some _ _).symm.trans H; with_reducible exact H2_) | with_reducible exact H | (rw [hy641]; exact H) | exact H
 have Ny641 := Aside0.mk hy641
 clear hy641
 replace H := oc H
 obtain ⟨t644, A3, H⟩ := H
 by_cases c4 : t644 = true
 ·subst c4
  rw [if_pos rfl] at H
  by_cases c5 : (l1.length : Int) = 0
  ·rw [if_pos c5] at H
   have c5b0 : ((l1.length : Int) == 0) = true := beq_iff_eq.mpr c5
   have c5b1 : ((l1.length : Int) != 0) = false := bne_eq_false_iff_eq.mpr c5
   clear c5
   simp only [Option.some.injEq, Prod.mk.injEq] at H
   obtain ⟨rfl, rfl, rfl⟩ := H
   go_enter Try.func36, Try.ntmps36
   go_wp2_with (first | ((with_reducible refine gate_dst (N := 11) rfl ?_); refine Kd.N_lit (Kd.slice 42 (Kd.int .u32)) _ 22 ?hg (N' := 11) ?hd (xs := ([l0, l1] : List (List Int))) (inner := [.slice A0 l0.length c0, .slice A1 l1.length c1]) (ok := (fun k_ => ((P0_ k_ ∨ P1_ k_) ∨ w.heap.size ≤ k_))) (okp := (fun k_ => ((P0_ k_ ∨ P1_ k_) ∨ w.heap.size ≤ k_))) ?hr ?hp (fun _ hk => hk) ((show ∀ k_, w.heap.size ≤ k_ → (fun k_ => ((P0_ k_ ∨ P1_ k_) ∨ w.heap.size ≤ k_)) k_ from fun k_ hk => (.inr (Nat.le_trans (below_size (bU HB)) hk))) _ (Nat.le_refl _)) (Below.refl _ _) (Nat.le_refl _) (by simp) ?_; (case hd => rfl); (case hg => rfl); (case hr => first | (go_simp; done) | (go_simp; rfl)); (case hp => exact (Reps.one (show Kd.FK (Kd.slice 42 (Kd.int .u32)) _ _ l0 [.slice A0 l0.length c0] from (Kd.FK_slice_mk (Kd.V_reads' (Kd.V_mono (ok' := (fun k_ => ((P0_ k_ ∨ P1_ k_) ∨ w.heap.size ≤ k_))) (HO0.out) (fun k_ hk => hk))).2.1 (Kd.V_F (Kd.V_mono (ok' := (fun k_ => ((P0_ k_ ∨ P1_ k_) ∨ w.heap.size ≤ k_))) (HO0.out) (fun k_ hk => hk))))) (Reps.one (show Kd.FK (Kd.slice 42 (Kd.int .u32)) _ _ l1 [.slice A1 l1.length c1] from (Kd.FK_slice_mk (Kd.V_reads' (Kd.V_mono (ok' := (fun k_ => ((P0_ k_ ∨ P1_ k_) ∨ w.heap.size ≤ k_))) (HO1.out) (fun k_ hk => hk))).2.1 (Kd.V_F (Kd.V_mono (ok' := (fun k_ => ((P0_ k_ ∨ P1_ k_) ∨ w.heap.size ≤ k_))) (HO1.out) (fun k_ hk => hk))))) (Reps.none _ _)))); intro v642 w6 ho7 hb hg_ hnew_; clear hg_ hnew_; (first | rw [← Ny641.out] at ho7 | (simp only [Int.reduceToNat] at ho7; rw [← Ny641.out] at ho7)); replace HO0 := Aside0.mk (Kd.V_elder' (vU HO0) (Kd.N_base ho7) hb); replace HO1 := Aside0.mk (Kd.V_elder' (vU HO1) (Kd.N_base ho7) hb); have HO643 := Aside0.mk (Kd.N_lower ho7 (below_size (bU HB))); replace HB := bS HB hb; clear hb ho7; obtain ⟨Ao8, co8, eo8⟩ := Kd.N_slice HO643.out; subst eo8) | ((with_reducible refine gc 43 rfl ?_); refine gL (some 12) Try.func43 #[.slice Ao8 y641.length co8] ?_; (with_reducible refine (nat_all.calls k _ _ y641 true _ ?side1 ?side2 A3.out).mono ?_); (case side1 => repeat (first | exact (Kd.N_reads' HO643.out).2.2 | (with_reducible refine Kd.C_alloc ?_ _) | (with_reducible refine Kd.C_drewN ?_ _) | (with_reducible refine Kd.C_drew ?_))); (case side2 => exact (Kd.N_reads' HO643.out).2.1); rintro e w' ⟨rfl, ⟨nd, rfl⟩⟩; refine ⟨_, rfl, ?_⟩))
   go_ret3
   exact ⟨_, _, by first | rfl | (simp [errW_none, errW_some] <;> rfl) | (simp [*, errW_none, errW_some] <;> rfl), by first | exact Kd.R_nil _ _ _ _ _ | exact Kd.N_nil _ _ _ _ _ | exact Kd.V_nil _ _ _ _ _ | exact Kd.Q_nil _ _ _ _ _ | exact Kd.S_nil _ _ _ _ _, by first | exact Kd.R_nil _ _ _ _ _ | exact Kd.N_nil _ _ _ _ _ | exact Kd.V_nil _ _ _ _ _ | exact Kd.Q_nil _ _ _ _ _ | exact Kd.S_nil _ _ _ _ _, bU HB⟩
  ·rw [if_neg c5] at H
   have c5b0 : ((l1.length : Int) == 0) = false := beq_eq_false_iff_ne.mpr c5
   have c5b1 : ((l1.length : Int) != 0) = true := bne_iff_ne.mpr c5
   have c5b2 : ¬ (l1 = []) := fun h_ => c5 (by rw [h_]; rfl)
   replace H := oc H
   obtain ⟨t645, A9, H⟩ := H
   by_cases c10 : t645 < 0
   ·rw [if_pos c10] at H
    have c10b0 := decide_eq_true c10
    clear c10
    by_cases c11 : ([] : List Int).length + l0.length < 35184372088832
    ·rw [if_pos c11] at H
     have LMc11 := Aside0.mk c11
     clear c11
     obtain ⟨y646, hy646⟩ : ∃ y_ : List Int, y_ = (([] : List Int) ++ l0) := ⟨_, rfl⟩
     replace H : (some (([] : List Int), y646, 0)) = some (r1, r2, r3) := by first | (rw [hy646]; with_reducible exact H) | (have H2_ := (Option.bind_some _ _).symm.trans H; rw [hy646]; with_reducible exact H2_) | (have H2_ := (Option.bind_some _ _).symm.trans H; with_reducible exact H2_) | with_reducible exact H | (rw [hy646]; exact H) | exact H
     have Ny646 := Aside0.mk hy646
     clear hy646
     simp only [Option.some.injEq, Prod.mk.injEq] at H
     obtain ⟨rfl, rfl, rfl⟩ := H
     go_enter Try.func36, Try.ntmps36
     go_wp2_with (first | ((with_reducible refine gate_dst (N := 11) rfl ?_); refine Kd.N_lit (Kd.slice 42 (Kd.int .u32)) _ 22 ?hg (N' := 11) ?hd (xs := ([l0, l1] : List (List Int))) (inner := [.slice A0 l0.length c0, .slice A1 l1.length c1]) (ok := (fun k_ => ((P0_ k_ ∨ P1_ k_) ∨ w.heap.size ≤ k_))) (okp := (fun k_ => ((P0_ k_ ∨ P1_ k_) ∨ w.heap.size ≤ k_))) ?hr ?hp (fun _ hk => hk) ((show ∀ k_, w.heap.size ≤ k_ → (fun k_ => ((P0_ k_ ∨ P1_ k_) ∨ w.heap.size ≤ k_)) k_ from fun k_ hk => (.inr (Nat.le_trans (below_size (bU HB)) hk))) _ (Nat.le_refl _)) (Below.refl _ _) (Nat.le_refl _) (by simp) ?_; (case hd => rfl); (case hg => rfl); (case hr => first | (go_simp; done) | (go_simp; rfl)); (case hp => exact (Reps.one (show Kd.FK (Kd.slice 42 (Kd.int .u32)) _ _ l0 [.slice A0 l0.length c0] from (Kd.FK_slice_mk (Kd.V_reads' (Kd.V_mono (ok' := (fun k_ => ((P0_ k_ ∨ P1_ k_) ∨ w.heap.size ≤ k_))) (HO0.out) (fun k_ hk => hk))).2.1 (Kd.V_F (Kd.V_mono (ok' := (fun k_ => ((P0_ k_ ∨ P1_ k_) ∨ w.heap.size ≤ k_))) (HO0.out) (fun k_ hk => hk))))) (Reps.one (show Kd.FK (Kd.slice 42 (Kd.int .u32)) _ _ l1 [.slice A1 l1.length c1] from (Kd.FK_slice_mk (Kd.V_reads' (Kd.V_mono (ok' := (fun k_ => ((P0_ k_ ∨ P1_ k_) ∨ w.heap.size ≤ k_))) (HO1.out) (fun k_ hk => hk))).2.1 (Kd.V_F (Kd.V_mono (ok' := (fun k_ => ((P0_ k_ ∨ P1_ k_) ∨ w.heap.size ≤ k_))) (HO1.out) (fun k_ hk => hk))))) (Reps.none _ _)))); intro v642 w12 ho13 hb hg_ hnew_; clear hg_ hnew_; (first | rw [← Ny641.out] at ho13 | (simp only [Int.reduceToNat] at ho13; rw [← Ny641.out] at ho13)); replace HO0 := Aside0.mk (Kd.V_elder' (vU HO0) (Kd.N_base ho13) hb); replace HO1 := Aside0.mk (Kd.V_elder' (vU HO1) (Kd.N_base ho13) hb); have HO643 := Aside0.mk (Kd.N_lower ho13 (below_size (bU HB))); replace HB := bS HB hb; clear hb ho13; obtain ⟨Ao14, co14, eo14⟩ := Kd.N_slice HO643.out; subst eo14) | ((with_reducible refine gc 43 rfl ?_); refine gL (some 12) Try.func43 #[.slice Ao14 y641.length co14] ?_; (with_reducible refine (nat_all.calls k _ _ y641 true _ ?side1 ?side2 A3.out).mono ?_); (case side1 => repeat (first | exact (Kd.N_reads' HO643.out).2.2 | (with_reducible refine Kd.C_alloc ?_ _) | (with_reducible refine Kd.C_drewN ?_ _) | (with_reducible refine Kd.C_drew ?_))); (case side2 => exact (Kd.N_reads' HO643.out).2.1); rintro e w' ⟨rfl, ⟨nd, rfl⟩⟩; refine ⟨_, rfl, ?_⟩) | ((with_reducible refine gc 44 rfl ?_); refine gL (some 21) Try.func44 #[.slice A0 l0.length c0, .slice A1 l1.length c1] ?_; (with_reducible refine (nat_cmp.calls k _ _ l0 _ _ l1 t645 _ ?side1 ?side2 ?side3 ?side4 A9.out).mono ?_); (case side1 => exact vC HO0); (case side2 => exact vN HO0); (case side3 => exact vC HO1); (case side4 => exact vN HO1); rintro e w' ⟨rfl, ⟨nd, rfl⟩⟩; refine ⟨_, rfl, ?_⟩) | ((with_reducible refine gate_builtin (b := .append) (xs := #[.const (.slice none 0 0), .tmp 23]) rfl ?_); at_builtin; refine Kd.R_append_rows (Kd.int .u32) (w0 := w) w.heap.size rfl (.const (.slice none 0 0)) (.tmp 23) 22 42 (.int .u32 0) 4 rfl Try.underlying22 info42 rfl (by decide) (by omega) (.slice none 0 0) ([] : List Int) l0 _ _ _ (fun k_ => (w.heap.size ≤ k_)) (fun _ => False) rfl rfl ?aO ?aR (fun _ _ h => h) (fun _ h => h.elim) ?aF ?aB ?aS ?aL ?_; (case aR => exact vC HO0); (case aB => exact (bU HB)); (case aF => exact (fun k_ hk => (Nat.le_trans (below_size (bU HB)) hk))); (case aO => exact ((Kd.R_nil _ _ _ _ (fun k_ => (w.heap.size ≤ k_))))); (case aS => exact (below_size (bU HB))); (case aL => have := LMc11.out; omega); intro v647 w15 ho hb hg hat; rw [← Ny646.out] at ho; replace HO0 := Aside0.mk (Kd.V_afterv (Kd.V_apart_nil (vU HO0)) hg hat); replace HO1 := Aside0.mk (Kd.V_afterv (Kd.V_apart_nil (vU HO1)) hg hat); replace HO643 := Aside0.mk (Kd.N_afterv (Kd.N_apart_nil (by (with_reducible repeat (first | apply Kd.N_alloc | apply Kd.N_drewN | apply Kd.N_drew)); exact HO643.out)) hg hat); replace HB := Aside0.mk (hb); have HO648 := Aside0.mk (ho); clear ho hb hg hat))
     go_ret3
     exact ⟨_, _, by first | rfl | (simp [errW_none, errW_some] <;> rfl) | (simp [*, errW_none, errW_some] <;> rfl), by first | exact Kd.R_nil _ _ _ _ _ | exact Kd.N_nil _ _ _ _ _ | exact Kd.V_nil _ _ _ _ _ | exact Kd.Q_nil _ _ _ _ _ | exact Kd.S_nil _ _ _ _ _, by (with_reducible repeat (first | apply Kd.R_alloc | apply Kd.R_drewN | apply Kd.R_drew)); exact Kd.R_mono HO648.out (fun _ hk => ⟨hk, (by simp [Value.ownBlock])⟩), bU HB⟩
    ·rw [if_neg c11] at H
     exact absurd H (by simp)
   ·rw [if_neg c10] at H
    have c10b0 := decide_eq_false c10
    clear c10
    by_cases c16 : (l1.length : Int) = 1
    ·rw [if_pos c16] at H
     have c16b0 : ((l1.length : Int) == 1) = true := beq_iff_eq.mpr c16
     have c16b1 : ((l1.length : Int) != 1) = false := bne_eq_false_iff_eq.mpr c16
     clear c16
     by_cases c17 : 0 < (l1.length : Int)
     ·rw [if_pos c17] at H
      have c17b0 := decide_eq_true c17
      have c17b1 : decide (0 < l1.length) = true := decide_eq_true (by omega)
      clear c17
      replace H := oc H
      obtain ⟨⟨t650, t651⟩, A18, H⟩ := H
      dsimp only at H
      obtain ⟨y654, hy654⟩ : ∃ y_ : List Int, y_ = (([t651] : List Int)) := ⟨_, rfl⟩
      replace H : ((nat_trim.f k y654).bind fun t657 => (some (t650, t657, 0))) = some (r1, r2, r3) := by first | (rw [hy654]; with_reducible exact H) | (have H2_ := (Option.bind_some _ _).symm.trans H; rw [hy654]; with_reducible exact H2_) | (have H2_ := (Option.bind_some _ _).symm.trans H; with_reducible exact H2_) | with_reducible exact H | (rw [hy654]; exact H) | exact H
      have Ny654 := Aside0.mk hy654
      clear hy654
      replace H := oc H
      obtain ⟨t657, A19, H⟩ := H
      simp only [Option.some.injEq, Prod.mk.injEq] at H
      obtain ⟨rfl, rfl, rfl⟩ := H
      go_enter Try.func36, Try.ntmps36
      go_wp2_with (first | ((with_reducible refine gate_dst (N := 11) rfl ?_); refine Kd.N_lit (Kd.slice 42 (Kd.int .u32)) _ 22 ?hg (N' := 11) ?hd (xs := ([l0, l1] : List (List Int))) (inner := [.slice A0 l0.length c0, .slice A1 l1.length c1]) (ok := (fun k_ => ((P0_ k_ ∨ P1_ k_) ∨ w.heap.size ≤ k_))) (okp := (fun k_ => ((P0_ k_ ∨ P1_ k_) ∨ w.heap.size ≤ k_))) ?hr ?hp (fun _ hk => hk) ((show ∀ k_, w.heap.size ≤ k_ → (fun k_ => ((P0_ k_ ∨ P1_ k_) ∨ w.heap.size ≤ k_)) k_ from fun k_ hk => (.inr (Nat.le_trans (below_size (bU HB)) hk))) _ (Nat.le_refl _)) (Below.refl _ _) (Nat.le_refl _) (by simp) ?_; (case hd => rfl); (case hg => rfl); (case hr => first | (go_simp; done) | (go_simp; rfl)); (case hp => exact (Reps.one (show Kd.FK (Kd.slice 42 (Kd.int .u32)) _ _ l0 [.slice A0 l0.length c0] from (Kd.FK_slice_mk (Kd.V_reads' (Kd.V_mono (ok' := (fun k_ => ((P0_ k_ ∨ P1_ k_) ∨ w.heap.size ≤ k_))) (HO0.out) (fun k_ hk => hk))).2.1 (Kd.V_F (Kd.V_mono (ok' := (fun k_ => ((P0_ k_ ∨ P1_ k_) ∨ w.heap.size ≤ k_))) (HO0.out) (fun k_ hk => hk))))) (Reps.one (show Kd.FK (Kd.slice 42 (Kd.int .u32)) _ _ l1 [.slice A1 l1.length c1] from (Kd.FK_slice_mk (Kd.V_reads' (Kd.V_mono (ok' := (fun k_ => ((P0_ k_ ∨ P1_ k_) ∨ w.heap.size ≤ k_))) (HO1.out) (fun k_ hk => hk))).2.1 (Kd.V_F (Kd.V_mono (ok' := (fun k_ => ((P0_ k_ ∨ P1_ k_) ∨ w.heap.size ≤ k_))) (HO1.out) (fun k_ hk => hk))))) (Reps.none _ _)))); intro v642 w20 ho21 hb hg_ hnew_; clear hg_ hnew_; (first | rw [← Ny641.out] at ho21 | (simp only [Int.reduceToNat] at ho21; rw [← Ny641.out] at ho21)); replace HO0 := Aside0.mk (Kd.V_elder' (vU HO0) (Kd.N_base ho21) hb); replace HO1 := Aside0.mk (Kd.V_elder' (vU HO1) (Kd.N_base ho21) hb); have HO643 := Aside0.mk (Kd.N_lower ho21 (below_size (bU HB))); replace HB := bS HB hb; clear hb ho21; obtain ⟨Ao22, co22, eo22⟩ := Kd.N_slice HO643.out; subst eo22) | ((with_reducible refine gc 43 rfl ?_); refine gL (some 12) Try.func43 #[.slice Ao22 y641.length co22] ?_; (with_reducible refine (nat_all.calls k _ _ y641 true _ ?side1 ?side2 A3.out).mono ?_); (case side1 => repeat (first | exact (Kd.N_reads' HO643.out).2.2 | (with_reducible refine Kd.C_alloc ?_ _) | (with_reducible refine Kd.C_drewN ?_ _) | (with_reducible refine Kd.C_drew ?_))); (case side2 => exact (Kd.N_reads' HO643.out).2.1); rintro e w' ⟨rfl, ⟨nd, rfl⟩⟩; refine ⟨_, rfl, ?_⟩) | ((with_reducible refine gc 44 rfl ?_); refine gL (some 21) Try.func44 #[.slice A0 l0.length c0, .slice A1 l1.length c1] ?_; (with_reducible refine (nat_cmp.calls k _ _ l0 _ _ l1 t645 _ ?side1 ?side2 ?side3 ?side4 A9.out).mono ?_); (case side1 => exact vC HO0); (case side2 => exact vN HO0); (case side3 => exact vC HO1); (case side4 => exact vN HO1); rintro e w' ⟨rfl, ⟨nd, rfl⟩⟩; refine ⟨_, rfl, ?_⟩; have p649 : 0 ≤ (0 : Int) := (by omega); have q649 : 0 < (l1.length : Int) := of_decide_eq_true (by first | (with_reducible assumption) | assumption); obtain ⟨ad649, e649, hx649_0⟩ := Kd.at_int (Kd.V_reads' HO1.out).2.2 0 p649 q649; cases e649; have qi649 : (0 < l1.length) = True := eq_true (by omega); (try rw [show ((0 : Int)).toNat = 0 from rfl] at hx649_0); (try rw [Addr.add_zero'] at hx649_0); replace p649 := eq_true p649; replace q649 := eq_true q649) | ((with_reducible refine gc 51 rfl ?_); refine gL (some 34) Try.func51 #[.slice A0 l0.length c0, .int .u32 (rd l1 0)] ?_; (with_reducible refine (nat_small.calls k _ _ l0 (rd l1 0) t650 t651 _ ?side1 ?side2 A18.out).mono ?_); (case side1 => exact vC HO0); (case side2 => exact vN HO0); rintro e w23 ⟨v652, rfl, ho0, hb⟩; refine ⟨_, rfl, ?_⟩; replace HO0 := vE HO0 ho0 hb; replace HO1 := vE HO1 ho0 hb; replace HO643 := Aside0.mk (Kd.N_elder' (by (with_reducible repeat (first | apply Kd.N_alloc | apply Kd.N_drewN | apply Kd.N_drew)); exact HO643.out) (Kd.R_base ho0) hb); have HO653 := rL (Kd.R_newM (M := fun k_ => (w.heap.size ≤ k_)) ho0 (below_size (bU HB)) (fun k_ h_ => h_)) HB; replace HB := bS HB hb; clear hb ho0) | ((with_reducible refine gate_dst (N := 39) rfl ?_); refine Kd.R_lit (Kd.int .u32) _ 42 ?hg (N := 39) ?hd (xs := ([t651] : List Int)) (inner := [.int .u32 t651]) (ok := fun _ => True) (okp := fun _ => True) ?hr ?hp (fun _ hk => hk) trivial (Below.refl _ _) (Nat.le_refl _) (by simp) ?_; (case hd => rfl); (case hg => rfl); (case hr => first | (go_simp; done) | (go_simp; rfl)); (case hp => exact (Reps.one (show Kd.M (Kd.int .u32) _ _ _ t651 [.int .u32 t651] from rfl) (Reps.none _ _))); intro v655 w24 ho25 hb hg_ hnew_; clear hg_ hnew_; (first | rw [← Ny654.out] at ho25 | (simp only [Int.reduceToNat] at ho25; rw [← Ny654.out] at ho25)); replace HO0 := vE HO0 ho25 hb; replace HO1 := vE HO1 ho25 hb; replace HO643 := Aside0.mk (Kd.N_elder' (by (with_reducible repeat (first | apply Kd.N_alloc | apply Kd.N_drewN | apply Kd.N_drew)); exact HO643.out) (Kd.R_base ho25) hb); have HO656 := rL (rX (Kd.R_newM (M := fun k_ => (w.heap.size ≤ k_)) ho25 (below_size (bU HB)) (fun k_ h_ => h_)) HO653) HB; replace HO653 := rE HO653 ho25 hb; replace HB := bS HB hb; clear hb ho25; obtain ⟨Ao26, co26, rfl⟩ := Kd.R_slice HO656.out) | ((with_reducible refine gc 41 rfl ?_); refine gL (some 40) Try.func41 #[.slice Ao26 y654.length co26] ?_; (with_reducible refine (nat_trim.calls k (fun k_ => some k_ = (.slice Ao26 y654.length co26 : Value).ownBlock) (.slice Ao26 y654.length co26) y654 t657 w _ ?side1 ?side2 A19.out).mono ?_); (case side1 => exact bU HB); (case side2 => exact Kd.R_tight rfl HO656.out); rintro e w27 ⟨v658, rfl, ho0, hb, hkp⟩; refine ⟨_, rfl, ?_⟩; replace HO0 := Aside0.mk (Kd.V_mono (ok' := fun k_ => ((P0_ k_ ∨ P1_ k_) ∨ w.heap.size ≤ k_) ∧ some k_ ≠ (.slice Ao22 y641.length co22 : Value).ownBlock ∧ some k_ ≠ (v652 : Value).ownBlock ∧ some k_ ≠ (v658 : Value).ownBlock) (Kd.V_keptB (HO0.out) hkp (fun k_ hk_ hs_ => (hk_.2) hs_)) (fun k_ hk_ => ⟨hk_.1.1.1.1, hk_.1.1.1.2, hk_.1.1.2, fun e_ => Or.elim (ho0.1 k_ e_.symm) (fun hs_ => hk_.2.1 hs_) (fun hn_ => Nat.not_le.2 hk_.2.2 hn_)⟩)); replace HO1 := Aside0.mk (Kd.V_mono (ok' := fun k_ => ((P0_ k_ ∨ P1_ k_) ∨ w.heap.size ≤ k_) ∧ some k_ ≠ (.slice Ao22 y641.length co22 : Value).ownBlock ∧ some k_ ≠ (v652 : Value).ownBlock ∧ some k_ ≠ (v658 : Value).ownBlock) (Kd.V_keptB (HO1.out) hkp (fun k_ hk_ hs_ => (hk_.2) hs_)) (fun k_ hk_ => ⟨hk_.1.1.1.1, hk_.1.1.1.2, hk_.1.1.2, fun e_ => Or.elim (ho0.1 k_ e_.symm) (fun hs_ => hk_.2.1 hs_) (fun hn_ => Nat.not_le.2 hk_.2.2 hn_)⟩)); replace HO643 := Aside0.mk (Kd.N_mono (ok' := fun k_ => ((P0_ k_ ∨ P1_ k_) ∨ w.heap.size ≤ k_) ∧ some k_ ≠ (v652 : Value).ownBlock ∧ some k_ ≠ (v658 : Value).ownBlock) (Kd.N_keptB (HO643.out) hkp (fun k_ hk_ hs_ => (hk_.2) hs_)) (fun k_ hk_ => ⟨hk_.1.1.1, hk_.1.1.2, fun e_ => Or.elim (ho0.1 k_ e_.symm) (fun hs_ => hk_.2.1 hs_) (fun hn_ => Nat.not_le.2 hk_.2.2 hn_)⟩)); have HO659 := Aside0.mk (Kd.R_mono (ok' := fun k_ => (w.heap.size ≤ k_) ∧ some k_ ≠ (v652 : Value).ownBlock) ho0 (fun k_ hk_ => ⟨Or.elim hk_ (fun hs_ => (HO656.out.1 k_ (hs_).symm).1.1) (fun hn_ => (Nat.le_trans (below_size (bU HB)) hn_)), Or.elim hk_ (fun hs_ => fun e_ => (((HO653.out).1 k_ e_.symm).2) hs_) (fun hn_ => (Kd.fresh' (Kd.R_lt (rU HO653)) k_ hn_))⟩)); replace HO653 := Aside0.mk (Kd.R_mono (ok' := fun k_ => (w.heap.size ≤ k_) ∧ some k_ ≠ (v658 : Value).ownBlock) (Kd.R_keptB (HO653.out) hkp (fun k_ hk_ hs_ => (hk_.2) hs_)) (fun k_ hk_ => ⟨hk_.1.1.1, fun e_ => Or.elim (ho0.1 k_ e_.symm) (fun hs_ => hk_.2.1 hs_) (fun hn_ => Nat.not_le.2 hk_.2.2 hn_)⟩)); replace HB := Aside0.mk (hb); clear HO656; clear hb hkp ho0))
      go_ret3
      exact ⟨_, _, by first | rfl | (simp [errW_none, errW_some] <;> rfl) | (simp [*, errW_none, errW_some] <;> rfl), rU HO653, rU HO659, bU HB⟩
     ·rw [if_neg c17] at H
      exact absurd H (by simp)
    ·rw [if_neg c16] at H
     have c16b0 : ((l1.length : Int) == 1) = false := beq_eq_false_iff_ne.mpr c16
     have c16b1 : ((l1.length : Int) != 1) = true := bne_iff_ne.mpr c16
     replace H := oc H
     obtain ⟨⟨t660, t661⟩, A28, H⟩ := H
     dsimp only at H
     simp only [Option.some.injEq, Prod.mk.injEq] at H
     obtain ⟨rfl, rfl, rfl⟩ := H
     go_enter Try.func36, Try.ntmps36
     go_wp2_with (first | ((with_reducible refine gate_dst (N := 11) rfl ?_); refine Kd.N_lit (Kd.slice 42 (Kd.int .u32)) _ 22 ?hg (N' := 11) ?hd (xs := ([l0, l1] : List (List Int))) (inner := [.slice A0 l0.length c0, .slice A1 l1.length c1]) (ok := (fun k_ => ((P0_ k_ ∨ P1_ k_) ∨ w.heap.size ≤ k_))) (okp := (fun k_ => ((P0_ k_ ∨ P1_ k_) ∨ w.heap.size ≤ k_))) ?hr ?hp (fun _ hk => hk) ((show ∀ k_, w.heap.size ≤ k_ → (fun k_ => ((P0_ k_ ∨ P1_ k_) ∨ w.heap.size ≤ k_)) k_ from fun k_ hk => (.inr (Nat.le_trans (below_size (bU HB)) hk))) _ (Nat.le_refl _)) (Below.refl _ _) (Nat.le_refl _) (by simp) ?_; (case hd => rfl); (case hg => rfl); (case hr => first | (go_simp; done) | (go_simp; rfl)); (case hp => exact (Reps.one (show Kd.FK (Kd.slice 42 (Kd.int .u32)) _ _ l0 [.slice A0 l0.length c0] from (Kd.FK_slice_mk (Kd.V_reads' (Kd.V_mono (ok' := (fun k_ => ((P0_ k_ ∨ P1_ k_) ∨ w.heap.size ≤ k_))) (HO0.out) (fun k_ hk => hk))).2.1 (Kd.V_F (Kd.V_mono (ok' := (fun k_ => ((P0_ k_ ∨ P1_ k_) ∨ w.heap.size ≤ k_))) (HO0.out) (fun k_ hk => hk))))) (Reps.one (show Kd.FK (Kd.slice 42 (Kd.int .u32)) _ _ l1 [.slice A1 l1.length c1] from (Kd.FK_slice_mk (Kd.V_reads' (Kd.V_mono (ok' := (fun k_ => ((P0_ k_ ∨ P1_ k_) ∨ w.heap.size ≤ k_))) (HO1.out) (fun k_ hk => hk))).2.1 (Kd.V_F (Kd.V_mono (ok' := (fun k_ => ((P0_ k_ ∨ P1_ k_) ∨ w.heap.size ≤ k_))) (HO1.out) (fun k_ hk => hk))))) (Reps.none _ _)))); intro v642 w29 ho30 hb hg_ hnew_; clear hg_ hnew_; (first | rw [← Ny641.out] at ho30 | (simp only [Int.reduceToNat] at ho30; rw [← Ny641.out] at ho30)); replace HO0 := Aside0.mk (Kd.V_elder' (vU HO0) (Kd.N_base ho30) hb); replace HO1 := Aside0.mk (Kd.V_elder' (vU HO1) (Kd.N_base ho30) hb); have HO643 := Aside0.mk (Kd.N_lower ho30 (below_size (bU HB))); replace HB := bS HB hb; clear hb ho30; obtain ⟨Ao31, co31, eo31⟩ := Kd.N_slice HO643.out; subst eo31) | ((with_reducible refine gc 43 rfl ?_); refine gL (some 12) Try.func43 #[.slice Ao31 y641.length co31] ?_; (with_reducible refine (nat_all.calls k _ _ y641 true _ ?side1 ?side2 A3.out).mono ?_); (case side1 => repeat (first | exact (Kd.N_reads' HO643.out).2.2 | (with_reducible refine Kd.C_alloc ?_ _) | (with_reducible refine Kd.C_drewN ?_ _) | (with_reducible refine Kd.C_drew ?_))); (case side2 => exact (Kd.N_reads' HO643.out).2.1); rintro e w' ⟨rfl, ⟨nd, rfl⟩⟩; refine ⟨_, rfl, ?_⟩) | ((with_reducible refine gc 44 rfl ?_); refine gL (some 21) Try.func44 #[.slice A0 l0.length c0, .slice A1 l1.length c1] ?_; (with_reducible refine (nat_cmp.calls k _ _ l0 _ _ l1 t645 _ ?side1 ?side2 ?side3 ?side4 A9.out).mono ?_); (case side1 => exact vC HO0); (case side2 => exact vN HO0); (case side3 => exact vC HO1); (case side4 => exact vN HO1); rintro e w' ⟨rfl, ⟨nd, rfl⟩⟩; refine ⟨_, rfl, ?_⟩) | ((with_reducible refine gc 54 rfl ?_); refine gL (some 44) Try.func54 #[.slice A0 l0.length c0, .slice A1 l1.length c1] ?_; (with_reducible refine (nat_long.calls k _ _ l0 _ _ l1 t660 t661 _ ?side1 ?side2 ?side3 ?side4 A28.out).mono ?_); (case side1 => exact vC HO0); (case side2 => exact vN HO0); (case side3 => exact vC HO1); (case side4 => exact vN HO1); rintro e w32 ⟨v662, v664, rfl, ho0, ho1, hb⟩; refine ⟨_, rfl, ?_⟩; replace HO0 := Aside0.mk (Kd.V_mono (Kd.V_told (Kd.V_told (Kd.V_old (vU HO0) hb) (Kd.R_base ho0)) (Kd.R_base ho1)) (fun _ h_ => h_.1)); replace HO1 := Aside0.mk (Kd.V_mono (Kd.V_told (Kd.V_told (Kd.V_old (vU HO1) hb) (Kd.R_base ho0)) (Kd.R_base ho1)) (fun _ h_ => h_.1)); replace HO643 := Aside0.mk (Kd.N_mono (Kd.N_told (Kd.N_told (Kd.N_old (by (with_reducible repeat (first | apply Kd.N_alloc | apply Kd.N_drewN | apply Kd.N_drew)); exact HO643.out) hb) (Kd.R_base ho0)) (Kd.R_base ho1)) (fun _ h_ => h_.1)); have HO663 := rL (Kd.R_newM (M := fun k_ => (w.heap.size ≤ k_)) ho0 (below_size (bU HB)) (fun k_ h_ => h_)) HB; have HO665 := rL (Kd.R_newM (M := fun k_ => (w.heap.size ≤ k_)) ho1 (below_size (bU HB)) (fun k_ h_ => h_)) HB; replace HB := bS HB hb; clear hb ho0 ho1))
     go_ret3
     exact ⟨_, _, by first | rfl | (simp [errW_none, errW_some] <;> rfl) | (simp [*, errW_none, errW_some] <;> rfl), rU HO663, rU HO665, bU HB⟩
 ·replace c4 := Bool.eq_false_iff.mpr c4
  subst c4
  rw [if_neg (show ¬ (false = true) by decide)] at H
  simp only [Option.some.injEq, Prod.mk.injEq] at H
  obtain ⟨rfl, rfl, rfl⟩ := H
  go_enter Try.func36, Try.ntmps36
  go_wp2_with (first | ((with_reducible refine gate_dst (N := 11) rfl ?_); refine Kd.N_lit (Kd.slice 42 (Kd.int .u32)) _ 22 ?hg (N' := 11) ?hd (xs := ([l0, l1] : List (List Int))) (inner := [.slice A0 l0.length c0, .slice A1 l1.length c1]) (ok := (fun k_ => ((P0_ k_ ∨ P1_ k_) ∨ w.heap.size ≤ k_))) (okp := (fun k_ => ((P0_ k_ ∨ P1_ k_) ∨ w.heap.size ≤ k_))) ?hr ?hp (fun _ hk => hk) ((show ∀ k_, w.heap.size ≤ k_ → (fun k_ => ((P0_ k_ ∨ P1_ k_) ∨ w.heap.size ≤ k_)) k_ from fun k_ hk => (.inr (Nat.le_trans (below_size (bU HB)) hk))) _ (Nat.le_refl _)) (Below.refl _ _) (Nat.le_refl _) (by simp) ?_; (case hd => rfl); (case hg => rfl); (case hr => first | (go_simp; done) | (go_simp; rfl)); (case hp => exact (Reps.one (show Kd.FK (Kd.slice 42 (Kd.int .u32)) _ _ l0 [.slice A0 l0.length c0] from (Kd.FK_slice_mk (Kd.V_reads' (Kd.V_mono (ok' := (fun k_ => ((P0_ k_ ∨ P1_ k_) ∨ w.heap.size ≤ k_))) (HO0.out) (fun k_ hk => hk))).2.1 (Kd.V_F (Kd.V_mono (ok' := (fun k_ => ((P0_ k_ ∨ P1_ k_) ∨ w.heap.size ≤ k_))) (HO0.out) (fun k_ hk => hk))))) (Reps.one (show Kd.FK (Kd.slice 42 (Kd.int .u32)) _ _ l1 [.slice A1 l1.length c1] from (Kd.FK_slice_mk (Kd.V_reads' (Kd.V_mono (ok' := (fun k_ => ((P0_ k_ ∨ P1_ k_) ∨ w.heap.size ≤ k_))) (HO1.out) (fun k_ hk => hk))).2.1 (Kd.V_F (Kd.V_mono (ok' := (fun k_ => ((P0_ k_ ∨ P1_ k_) ∨ w.heap.size ≤ k_))) (HO1.out) (fun k_ hk => hk))))) (Reps.none _ _)))); intro v642 w33 ho34 hb hg_ hnew_; clear hg_ hnew_; (first | rw [← Ny641.out] at ho34 | (simp only [Int.reduceToNat] at ho34; rw [← Ny641.out] at ho34)); replace HO0 := Aside0.mk (Kd.V_elder' (vU HO0) (Kd.N_base ho34) hb); replace HO1 := Aside0.mk (Kd.V_elder' (vU HO1) (Kd.N_base ho34) hb); have HO643 := Aside0.mk (Kd.N_lower ho34 (below_size (bU HB))); replace HB := bS HB hb; clear hb ho34; obtain ⟨Ao35, co35, eo35⟩ := Kd.N_slice HO643.out; subst eo35) | ((with_reducible refine gc 43 rfl ?_); refine gL (some 12) Try.func43 #[.slice Ao35 y641.length co35] ?_; (with_reducible refine (nat_all.calls k _ _ y641 false _ ?side1 ?side2 A3.out).mono ?_); (case side1 => repeat (first | exact (Kd.N_reads' HO643.out).2.2 | (with_reducible refine Kd.C_alloc ?_ _) | (with_reducible refine Kd.C_drewN ?_ _) | (with_reducible refine Kd.C_drew ?_))); (case side2 => exact (Kd.N_reads' HO643.out).2.1); rintro e w' ⟨rfl, ⟨nd, rfl⟩⟩; refine ⟨_, rfl, ?_⟩))
  go_ret3
  exact ⟨_, _, by first | rfl | (simp [errW_none, errW_some] <;> rfl) | (simp [*, errW_none, errW_some] <;> rfl), by first | exact Kd.R_nil _ _ _ _ _ | exact Kd.N_nil _ _ _ _ _ | exact Kd.V_nil _ _ _ _ _ | exact Kd.Q_nil _ _ _ _ _ | exact Kd.S_nil _ _ _ _ _, by first | exact Kd.R_nil _ _ _ _ _ | exact Kd.N_nil _ _ _ _ _ | exact Kd.V_nil _ _ _ _ _ | exact Kd.Q_nil _ _ _ _ _ | exact Kd.S_nil _ _ _ _ _, bU HB⟩

end Go.Proofs.Ytldcelgbinenbaa.Px

namespace Go.Proofs.Ytldcelgbinenbaa.Px
open Go.RowKit Go.Proofs.YtldcelgbinenbaaW.PrintWords Go.Proofs.YtldcelgbinenbaaW.PrintLast Go.Proofs.YtldcelgbinenbaaW.PrintMore
attribute [local go_sem] max2_int min2_int max_two min_two max_three min_three max_four min_four   -- for this text's walks alone
set_option linter.unusedVariables false
set_option linter.unusedSimpArgs false

/-! ### nat_Len: function 59 -/
def nat_Len.f (l0 : List Int) : Option (Int) := (nat_May.f l0).bind fun t813 => (if t813 = true then (if (l0.length : Int) = 0 then (some 0) else (if 0 ≤ (wrap64 ((l0.length : Int) - 1)) then (if (wrap64 ((l0.length : Int) - 1)) < (l0.length : Int) then ((bits_Len32.f (rd l0 (wrap64 ((l0.length : Int) - 1)))).bind fun t815 => (some (wrap64 ((wrap64 (32 * (wrap64 ((l0.length : Int) - 1)))) + t815)))) else (none)) else (none))) else (some 0))
set_option maxHeartbeats 8000000 in
set_option maxRecDepth 100000 in
theorem nat_Len.calls (A0 : Option Addr) (c0 : Nat) (l0 : List Int) (r : Int) (w : World) (hr0 : Kd.C (Kd.int .u32) w A0 l0.length l0) (hc0 : l0.length ≤ c0) (h : nat_Len.f l0 = some r) :
  Calls Try.prog 59 #[.slice A0 l0.length c0] w fun e w' => e = .returned (.int .i64 r) ∧ Drawn0 w w' := by
 have HR0 := Aside0.mk hr0
 have HC0 := Aside0.mk hc0
 clear hr0 hc0
 have H := h
 unfold nat_Len.f at H
 clear h
 replace H := oc H
 obtain ⟨t813, A2, H⟩ := H
 by_cases c3 : t813 = true
 ·subst c3
  rw [if_pos rfl] at H
  by_cases c4 : (l0.length : Int) = 0
  ·rw [if_pos c4] at H
   have c4b0 : ((l0.length : Int) == 0) = true := beq_iff_eq.mpr c4
   have c4b1 : ((l0.length : Int) != 0) = false := bne_eq_false_iff_eq.mpr c4
   clear c4
   obtain rfl := Option.some.inj H
   go_enter Try.func59, Try.ntmps59
   go_wp2_with (first | ((with_reducible refine gc 15 rfl ?_); refine gL (some 4) Try.func15 #[.slice A0 l0.length c0] ?_; (with_reducible refine (nat_May.calls _ _ l0 true _ ?side1 ?side2 A2.out).mono ?_); (case side1 => exact cU HR0); (case side2 => exact HC0.out); rintro e w' ⟨rfl, ⟨nd, rfl⟩⟩; refine ⟨_, rfl, ?_⟩))
   go_ret
   exact ⟨by first | rfl | (simp; done) | (simp [*]; done), by repeat (first | exact Drawn0.refl _ | apply Drawn0.step)⟩
  ·rw [if_neg c4] at H
   have c4b0 : ((l0.length : Int) == 0) = false := beq_eq_false_iff_ne.mpr c4
   have c4b1 : ((l0.length : Int) != 0) = true := bne_iff_ne.mpr c4
   have c4b2 : ¬ (l0 = []) := fun h_ => c4 (by rw [h_]; rfl)
   obtain ⟨ji5, hji5⟩ : ∃ j_ : Int, (wrap64 ((l0.length : Int) - 1)) = j_ := ⟨_, rfl⟩
   (first | rw [hji5] at H | simp only [hji5] at H)
   (try rw [hji5] at A2)
   have hji5w : (IntKind.i64.wrap ((l0.length : Int) - 1)) = ji5 := (i64_w _).trans hji5
   by_cases c6 : 0 ≤ (ji5)
   ·rw [if_pos c6] at H
    have c6b0 := decide_eq_true c6
    clear c6
    by_cases c7 : (ji5) < (l0.length : Int)
    ·rw [if_pos c7] at H
     have c7b0 := decide_eq_true c7
     clear c7
     replace H := oc H
     obtain ⟨t815, A8, H⟩ := H
     obtain rfl := Option.some.inj H
     go_enter Try.func59, Try.ntmps59
     go_wp2_with (first | ((with_reducible refine gc 15 rfl ?_); refine gL (some 4) Try.func15 #[.slice A0 l0.length c0] ?_; (with_reducible refine (nat_May.calls _ _ l0 true _ ?side1 ?side2 A2.out).mono ?_); (case side1 => exact cU HR0); (case side2 => exact HC0.out); rintro e w' ⟨rfl, ⟨nd, rfl⟩⟩; refine ⟨_, rfl, ?_⟩; have p814 : 0 ≤ ((ji5) : Int) := of_decide_eq_true (by first | (with_reducible assumption) | assumption); have q814 : (ji5) < (l0.length : Int) := of_decide_eq_true (by first | (with_reducible assumption) | assumption); obtain ⟨ad814, e814, hx814_0⟩ := Kd.at_int HR0.out (ji5) p814 q814; cases e814; replace p814 := eq_true p814; replace q814 := eq_true q814) | ((with_reducible refine gc 62 rfl ?_); refine goesL_ (some 21) rfl rfl Try.func62 (by kernel_rfl) rfl #[.int .u32 (rd l0 (ji5))] rfl (by (try simp only [List.map_toArray, List.map_cons, List.map_nil]); first | done | (simp only [hji5]; rfl) | rfl | (simp only [List.length_drop, List.length_take]; rfl)) ?_; (with_reducible refine (bits_Len32.calls (rd l0 (ji5)) t815 _ A8.out).mono ?_); rintro e w' ⟨rfl, ⟨nd, rfl⟩⟩; refine ⟨_, rfl, ?_⟩))
     go_ret
     exact ⟨by first | rfl | (simp; done) | (simp only [← hji5] <;> (first | rfl | simp)) | (simp [*]; done), by repeat (first | exact Drawn0.refl _ | apply Drawn0.step)⟩
    ·rw [if_neg c7] at H
     exact absurd H (by simp)
   ·rw [if_neg c6] at H
    exact absurd H (by simp)
 ·replace c3 := Bool.eq_false_iff.mpr c3
  subst c3
  rw [if_neg (show ¬ (false = true) by decide)] at H
  obtain rfl := Option.some.inj H
  go_enter Try.func59, Try.ntmps59
  go_wp2_with (first | ((with_reducible refine gc 15 rfl ?_); refine gL (some 4) Try.func15 #[.slice A0 l0.length c0] ?_; (with_reducible refine (nat_May.calls _ _ l0 false _ ?side1 ?side2 A2.out).mono ?_); (case side1 => exact cU HR0); (case side2 => exact HC0.out); rintro e w' ⟨rfl, ⟨nd, rfl⟩⟩; refine ⟨_, rfl, ?_⟩))
  go_ret
  exact ⟨by first | rfl | (simp; done) | (simp [*]; done), by repeat (first | exact Drawn0.refl _ | apply Drawn0.step)⟩

end Go.Proofs.Ytldcelgbinenbaa.Px

namespace Go.Proofs.Ytldcelgbinenbaa.Px
open Go.RowKit Go.Proofs.YtldcelgbinenbaaW.PrintWords Go.Proofs.YtldcelgbinenbaaW.PrintLast Go.Proofs.YtldcelgbinenbaaW.PrintMore
attribute [local go_sem] max2_mx min2_int max_two min_two max_three min_three max_four min_four   -- for this text's walks alone
set_option linter.unusedVariables false
set_option linter.unusedSimpArgs false

/-! ### nat_Root: function 39 -/
mutual
def nat_Root.l0 : Nat → List Int → List Int → Option (List Int × Bool × Int)
 | 0, _, _ => none
 | k + 1, x0, x5 => (nat_QuoRem.f k x0 x5).bind fun bt824 => (if 0 ≤ (wrap64 ((mx (bt824.1.length : Int) (x5.length : Int)) + 1)) then (if (wrap64 ((mx (bt824.1.length : Int) (x5.length : Int)) + 1) : Int).toNat ≤ 70368744177664 then ((some (List.replicate (wrap64 ((mx (bt824.1.length : Int) (x5.length : Int)) + 1) : Int).toNat 0 : List Int)).bind fun y831 => (nat_Root.l1 k x0 x5 bt824.1 y831 0 (y831.length : Int) 0)) else (none)) else (none))
def nat_Root.l1 : Nat → List Int → List Int → List Int → List Int → Int → Int → Int → Option (List Int × Bool × Int)
 | 0, _, _, _, _, _, _, _ => none
 | k + 1, x0, x5, x6, x9, x10, x42, x43 => if x43 < x42 then (if x43 < (x6.length : Int) then (if 0 ≤ x43 then (if x43 < (x5.length : Int) then ((bits_Add32.f (rd x6 x43) (rd x5 x43) x10).bind fun bt836 => (if x43 < (x9.length : Int) then (nat_Root.l1 k x0 x5 x6 (x9.set (x43 : Int).toNat bt836.1) bt836.2 x42 (wrap64 (x43 + 1))) else (none))) else ((bits_Add32.f (rd x6 x43) 0 x10).bind fun bt839 => (if x43 < (x9.length : Int) then (nat_Root.l1 k x0 x5 x6 (x9.set (x43 : Int).toNat bt839.1) bt839.2 x42 (wrap64 (x43 + 1))) else (none)))) else (none)) else (if x43 < (x5.length : Int) then (if 0 ≤ x43 then ((bits_Add32.f 0 (rd x5 x43) x10).bind fun bt843 => (if x43 < (x9.length : Int) then (nat_Root.l1 k x0 x5 x6 (x9.set (x43 : Int).toNat bt843.1) bt843.2 x42 (wrap64 (x43 + 1))) else (none))) else (none)) else ((bits_Add32.f 0 0 x10).bind fun bt846 => (if 0 ≤ x43 then (if x43 < (x9.length : Int) then (nat_Root.l1 k x0 x5 x6 (x9.set (x43 : Int).toNat bt846.1) bt846.2 x42 (wrap64 (x43 + 1))) else (none)) else (none))))) else ((nat_trim.f k x9).bind fun t849 => ((nat_down.f k t849 1).bind fun t852 => ((nat_cmp.f k t852 x5).bind fun t855 => (if t855 ≥ 0 then ((nat_mul.f k x5 x5).bind fun t856 => ((nat_cmp.f k t856 x0).bind fun t859 => (some (x5, (t859 == 0), 0)))) else (nat_Root.l0 k x0 t852)))))
end
def nat_Root.f (k : Nat) (l0 : List Int) : Option (List Int × Bool × Int) := (nat_May.f l0).bind fun t816 => (if t816 = true then (if (l0.length : Int) = 0 then (some (([] : List Int), true, 0)) else ((nat_Len.f l0).bind fun t820 => ((nat_up.f k (([1] : List Int)) (wrap64 (Int.tdiv (wrap64 (t820 + 1)) 2))).bind fun t821 => (nat_Root.l0 k l0 t821)))) else (some (([] : List Int), false, 2)))
theorem nat_Root.mono_l : ∀ k, (∀ y0 y1, LeO (nat_Root.l0 k y0 y1) (nat_Root.l0 (k + 1) y0 y1)) ∧ (∀ y0 y1 y2 y3 y4 y5 y6, LeO (nat_Root.l1 k y0 y1 y2 y3 y4 y5 y6) (nat_Root.l1 (k + 1) y0 y1 y2 y3 y4 y5 y6))
 | 0 => ⟨fun _ _ r h => by simp [nat_Root.l0] at h, fun _ _ _ _ _ _ _ r h => by simp [nat_Root.l1] at h⟩
 | k + 1 => by
  obtain ⟨ih0, ih1⟩ := nat_Root.mono_l k
  refine ⟨?_, ?_⟩
  ·intro y0 y1
   unfold nat_Root.l0
   repeat' (with_reducible first | exact ih0 _ _ | exact ih1 _ _ _ _ _ _ _ | exact nat_QuoRem.mono _ _ _ | exact nat_cmp.mono _ _ _ | exact nat_down.mono _ _ _ | exact nat_mul.mono _ _ _ | exact nat_trim.mono _ _ | exact nat_up.mono _ _ _ | exact LeO.refl _ | exact LeO.none _ | refine LeO.ite ?_ ?_ | refine LeO.bind ?_ (fun _ => ?_))
  ·intro y0 y1 y2 y3 y4 y5 y6
   unfold nat_Root.l1
   repeat' (with_reducible first | exact ih0 _ _ | exact ih1 _ _ _ _ _ _ _ | exact nat_QuoRem.mono _ _ _ | exact nat_cmp.mono _ _ _ | exact nat_down.mono _ _ _ | exact nat_mul.mono _ _ _ | exact nat_trim.mono _ _ | exact nat_up.mono _ _ _ | exact LeO.refl _ | exact LeO.none _ | refine LeO.ite ?_ ?_ | refine LeO.bind ?_ (fun _ => ?_))
theorem nat_Root.mono : ∀ a0 k, LeO (nat_Root.f k a0) (nat_Root.f (k + 1) a0) := by
 intro a0 k
 obtain ⟨ih0, ih1⟩ := nat_Root.mono_l k
 unfold nat_Root.f
 repeat' (with_reducible first | exact ih0 _ _ | exact ih1 _ _ _ _ _ _ _ | exact nat_QuoRem.mono _ _ _ | exact nat_cmp.mono _ _ _ | exact nat_down.mono _ _ _ | exact nat_mul.mono _ _ _ | exact nat_trim.mono _ _ | exact nat_up.mono _ _ _ | exact LeO.refl _ | exact LeO.none _ | refine LeO.ite ?_ ?_ | refine LeO.bind ?_ (fun _ => ?_))
set_option maxHeartbeats 8000000 in
set_option maxRecDepth 100000 in
theorem nat_Root.calls (k : Nat) (A0 : Option Addr) (c0 : Nat) (l0 : List Int) (r1 : List Int) (r2 : Bool) (r3 : Int) (w : World) (hr0 : Kd.C (Kd.int .u32) w A0 l0.length l0) (hc0 : l0.length ≤ c0) (h : nat_Root.f k l0 = some (r1, r2, r3)) :
  Calls Try.prog 39 #[.slice A0 l0.length c0] w fun e w' => ∃ v0_ : Value, e = .returned (.tuple #[v0_, .bool r2, .int .i64 r3]) ∧ Kd.R (Kd.int .u32) 42 w' w.heap.size (fun _ => True) v0_ r1 ∧ Below w.heap.size w w' := by
 have HR0 := Aside0.mk hr0
 have HC0 := Aside0.mk hc0
 clear hr0 hc0
 have HB := Aside0.mk (Below.refl w.heap.size w)
 have H := h
 unfold nat_Root.f at H
 clear h
 replace H := oc H
 obtain ⟨t816, A2, H⟩ := H
 by_cases c3 : t816 = true
 ·subst c3
  rw [if_pos rfl] at H
  by_cases c4 : (l0.length : Int) = 0
  ·rw [if_pos c4] at H
   have c4b0 : ((l0.length : Int) == 0) = true := beq_iff_eq.mpr c4
   have c4b1 : ((l0.length : Int) != 0) = false := bne_eq_false_iff_eq.mpr c4
   clear c4
   simp only [Option.some.injEq, Prod.mk.injEq] at H
   obtain ⟨rfl, rfl, rfl⟩ := H
   go_enter Try.func39, Try.ntmps39
   go_wp2_with (first | ((with_reducible refine gc 15 rfl ?_); refine gL (some 16) Try.func15 #[.slice A0 l0.length c0] ?_; (with_reducible refine (nat_May.calls _ _ l0 true _ ?side1 ?side2 A2.out).mono ?_); (case side1 => exact cU HR0); (case side2 => exact HC0.out); rintro e w' ⟨rfl, ⟨nd, rfl⟩⟩; refine ⟨_, rfl, ?_⟩))
   go_ret3
   exact ⟨_, by first | rfl | (simp [errW_none, errW_some] <;> rfl) | (simp [*, errW_none, errW_some] <;> rfl), by first | exact Kd.R_nil _ _ _ _ _ | exact Kd.N_nil _ _ _ _ _ | exact Kd.V_nil _ _ _ _ _ | exact Kd.Q_nil _ _ _ _ _ | exact Kd.S_nil _ _ _ _ _, bU HB⟩
  ·rw [if_neg c4] at H
   have c4b0 : ((l0.length : Int) == 0) = false := beq_eq_false_iff_ne.mpr c4
   have c4b1 : ((l0.length : Int) != 0) = true := bne_iff_ne.mpr c4
   have c4b2 : ¬ (l0 = []) := fun h_ => c4 (by rw [h_]; rfl)
   obtain ⟨y817, hy817⟩ : ∃ y_ : List Int, y_ = (([1] : List Int)) := ⟨_, rfl⟩
   replace H : ((nat_Len.f l0).bind fun t820 => ((nat_up.f k y817 (wrap64 (Int.tdiv (wrap64 (t820 + 1)) 2))).bind fun t821 => (nat_Root.l0 k l0 t821))) = some (r1, r2, r3) := by first | (rw [hy817]; with_reducible exact H) | (have H2_ := (Option.bind_some _ _).symm.trans H; rw [hy817]; with_reducible exact H2_) | (have H2_ := (Option.bind_some _ _).symm.trans H; with_reducible exact H2_) | with_reducible exact H | (rw [hy817]; exact H) | exact H
   have Ny817 := Aside0.mk hy817
   clear hy817
   replace H := oc H
   obtain ⟨t820, A5, H⟩ := H
   replace H := oc H
   obtain ⟨t821, A6, H⟩ := H
   have H' := Aside0.mk H
   clear H
   go_enter Try.func39, Try.ntmps39
   go_wp2_with (first | ((with_reducible refine gc 15 rfl ?_); refine gL (some 16) Try.func15 #[.slice A0 l0.length c0] ?_; (with_reducible refine (nat_May.calls _ _ l0 true _ ?side1 ?side2 A2.out).mono ?_); (case side1 => exact cU HR0); (case side2 => exact HC0.out); rintro e w' ⟨rfl, ⟨nd, rfl⟩⟩; refine ⟨_, rfl, ?_⟩) | ((with_reducible refine gate_dst (N := 21) rfl ?_); refine Kd.R_lit (Kd.int .u32) _ 42 ?hg (N := 21) ?hd (xs := ([1] : List Int)) (inner := [.int .u32 1]) (ok := fun _ => True) (okp := fun _ => True) ?hr ?hp (fun _ hk => hk) trivial (Below.refl _ _) (Nat.le_refl _) (by simp) ?_; (case hd => rfl); (case hg => rfl); (case hr => first | (go_simp; done) | (go_simp; rfl)); (case hp => exact (Reps.one (show Kd.M (Kd.int .u32) _ _ _ 1 [.int .u32 1] from rfl) (Reps.none _ _))); intro v818 w7 ho8 hb hg_ hnew_; clear hg_ hnew_; (first | rw [← Ny817.out] at ho8 | (simp only [Int.reduceToNat] at ho8; rw [← Ny817.out] at ho8)); have HO819 := rL ho8 HB; replace HB := bS HB hb; clear hb ho8) | ((with_reducible refine gc 59 rfl ?_); refine gL (some 23) Try.func59 #[.slice A0 l0.length c0] ?_; (with_reducible refine (nat_Len.calls _ _ l0 t820 _ ?side1 ?side2 A5.out).mono ?_); (case side1 => exact cB HR0 HB); (case side2 => exact HC0.out); rintro e w' ⟨rfl, ⟨nd, rfl⟩⟩; refine ⟨_, rfl, ?_⟩; obtain ⟨Ao9, co9, rfl⟩ := Kd.R_slice HO819.out) | ((with_reducible refine gc 58 rfl ?_); refine gL (some 26) Try.func58 #[.slice Ao9 y817.length co9, .int .i64 (wrap64 (Int.tdiv (wrap64 (t820 + 1)) 2))] ?_; (with_reducible refine (nat_up.calls k _ _ y817 (wrap64 (Int.tdiv (wrap64 (t820 + 1)) 2)) t821 _ ?side1 ?side2 A6.out).mono ?_); (case side1 => exact rC HO819); (case side2 => exact rN HO819); rintro e w10 ⟨v822, rfl, ho0, hb⟩; refine ⟨_, rfl, ?_⟩; have HO823 := rL (rX ho0 HO819) HB; replace HO819 := rE HO819 ho0 hb; replace HB := bS HB hb; clear hb ho0))
   go_loopg [5] k (fun kq v5 w' => ∃ (x5_1 : List Int), Aside0 (nat_Root.l0 kq l0 x5_1 = some (r1, r2, r3)) ∧ Aside0 (kq ≤ k) ∧ Aside0 (Kd.R (Kd.int .u32) 42 w' w.heap.size (fun _ => True) v5 x5_1) ∧ Aside0 (Below w.heap.size w w'))
   case atStart => exact ⟨(t821), H', ⟨Nat.le_refl _⟩, ⟨by (with_reducible repeat (first | apply Kd.R_alloc | apply Kd.R_drewN | apply Kd.R_drew)); exact Kd.R_mono HO823.out (fun _ hk => trivial)⟩, ⟨bU HB⟩⟩
   case round =>
    clear H'
    try clear c1; try clear p2; try clear c3; try clear c4; try clear c4b0; try clear c4b1; try clear c4b2; try clear c5; try clear p6
    obtain ⟨x5_1, HA, HK1, HO_5, HB⟩ := hrel
    cases gk with
    | zero => exact absurd HA.out (by simp [nat_Root.l0])
    | succ k1 =>
     have H := HA.out
     clear HA
     simp only [nat_Root.l0] at H
     replace H := oc H
     obtain ⟨⟨t824, t827, t830⟩, A11, H⟩ := H
     dsimp only at H
     obtain ⟨ji12, hji12⟩ : ∃ j_ : Int, (mx (t824.length : Int) (x5_1.length : Int)) = j_ := ⟨_, rfl⟩
     (first | rw [hji12] at H | simp only [hji12] at H)
     (try rw [hji12] at A11)
     have hji12_ : (if (t824.length : Int) < (x5_1.length : Int) then (x5_1.length : Int) else (t824.length : Int)) = ji12 := hji12
     obtain ⟨ji13, hji13⟩ : ∃ j_ : Int, (wrap64 ((ji12) + 1)) = j_ := ⟨_, rfl⟩
     (first | rw [hji13] at H | simp only [hji13] at H)
     (try rw [hji13] at A11)
     have hji13w : (IntKind.i64.wrap ((ji12) + 1)) = ji13 := (i64_w _).trans hji13
     by_cases c14 : 0 ≤ (ji13)
     ·rw [if_pos c14] at H
      have c14b0 := eq_true c14
      have c14b1 := decide_eq_true c14
      clear c14
      by_cases c15 : (ji13 : Int).toNat ≤ 70368744177664
      ·rw [if_pos c15] at H
       have c15b0 := eq_true c15
       have c15b1 := decide_eq_true c15
       clear c15
       replace H := ob H
       obtain ⟨y831, hy831, H⟩ := H
       have Ny831 := Aside0.mk hy831
       clear hy831
       have H' := Aside0.mk H
       clear H
       obtain ⟨Ao16, co16, eo16⟩ := Kd.R_slice HO_5.out
       subst eo16
       go_wp2_with (first | ((with_reducible refine gc 36 rfl ?_); refine gL (some 30) Try.func36 #[.slice A0 l0.length c0, .slice Ao16 x5_1.length co16] ?_; (with_reducible refine (nat_QuoRem.calls k1 (fun k_ => k_ < w.heap.size) _ _ l0 (fun k_ => some k_ = (.slice Ao16 x5_1.length co16 : Value).ownBlock) _ _ x5_1 t824 t827 t830 _ ?side1 ?side2 A11.out).mono ?_); (case side1 => exact Kd.V_mk HC0.out (Kd.F_below (Kd.C_F (Kd.heap_int .u32) HR0.out) (bU HB))); (case side2 => exact Kd.R_V (Kd.R_tight rfl (HO_5.out))); rintro e w17 ⟨v825, v828, rfl, ho0, ho1, hb⟩; refine ⟨_, rfl, ?_⟩; have HO826 := rL (rX (Kd.R_mono (ok' := fun k_ => some k_ ≠ (v828 : Value).ownBlock) ho0 (fun _ hk_ => hk_.2)) HO_5) HB; have HO829 := rL (rX (Kd.R_mono (ok' := fun k_ => some k_ ≠ (v825 : Value).ownBlock) ho1 (fun _ hk_ => hk_.2)) HO_5) HB; replace HO_5 := Aside0.mk (Kd.R_mono (Kd.R_told (Kd.R_told (Kd.R_old (rU HO_5) hb) (Kd.R_base ho0)) (Kd.R_base ho1)) (fun _ h_ => h_.1)); replace HB := bS HB hb; clear hb ho0 ho1; obtain ⟨Ao18, co18, rfl⟩ := Kd.R_slice HO826.out) | ((with_reducible refine gate_dst (N := 40) rfl ?_); refine Kd.R_make (Kd.int .u32) _ 42 rfl (N := 40) rfl 22 _ _ rfl ji13 (by first | rfl | (simp only [← hji13, ← hji12]; rfl)) (by first | rfl | (simp only [← hji13, ← hji12]; rfl)) Try.underlying22 (.int .u32 0) 4 info42 rfl (by decide) (by omega) 0 (ok := fun _ => True) (okp := fun _ => True) rfl (fun _ hk => hk) trivial od (Nat.le_trans (Nat.mul_le_mul_right _ (of_decide_eq_true (by first | (with_reducible assumption) | assumption) : ji13.toNat ≤ 70368744177664)) (by omega)) (Below.refl _ _) (Nat.le_refl _) ?_; intro v832 w19 ho20 hb hg_ hnew_; clear hg_ hnew_; (first | rw [← Ny831.out] at ho20 | (simp only [Int.reduceToNat] at ho20; rw [← Ny831.out] at ho20)); have HO833 := rL (rX (rX (rX ho20 HO_5) HO826) HO829) HB; replace HO_5 := rE HO_5 ho20 hb; replace HO826 := rE HO826 ho20 hb; replace HO829 := rE HO829 ho20 hb; replace HB := bS HB hb; clear hb ho20; obtain ⟨Ao21, co21, rfl⟩ := Kd.R_slice HO833.out))
       go_loopg [10, 43] k1 (fun kq v10 v43 w' => ∃ (x9_2 : List Int) (x10_2 : Int) (x43_2 : Int), v10 = .int .u32 x10_2 ∧ v43 = .int .i64 x43_2 ∧ Aside0 (nat_Root.l1 kq l0 x5_1 t824 x9_2 x10_2 (y831.length : Int) x43_2 = some (r1, r2, r3)) ∧ Aside0 (kq ≤ k1) ∧ Aside0 (Kd.R (Kd.int .u32) 42 w' w.heap.size (fun k_ => some k_ ≠ ((.slice Ao18 t824.length co18) : Value).ownBlock ∧ some k_ ≠ ((.slice Ao21 y831.length co21) : Value).ownBlock) (.slice Ao16 x5_1.length co16) x5_1) ∧ Aside0 (Kd.R (Kd.int .u32) 42 w' w.heap.size (fun k_ => some k_ ≠ ((.slice Ao16 x5_1.length co16) : Value).ownBlock ∧ some k_ ≠ ((.slice Ao21 y831.length co21) : Value).ownBlock) (.slice Ao18 t824.length co18) t824) ∧ Aside0 (Kd.R (Kd.int .u32) 42 w' w.heap.size (fun k_ => some k_ ≠ ((.slice Ao16 x5_1.length co16) : Value).ownBlock ∧ some k_ ≠ ((.slice Ao18 t824.length co18) : Value).ownBlock) (.slice Ao21 y831.length co21) x9_2) ∧ Aside0 (Below w.heap.size w w'))
       case atStart => exact ⟨(y831), (0), (0), es, es, H', ⟨Nat.le_refl _⟩, ⟨by (with_reducible repeat (first | apply Kd.R_alloc | apply Kd.R_drewN | apply Kd.R_drew)); exact Kd.R_mono HO_5.out (fun _ hk => ⟨hk.1.1.2, hk.2⟩)⟩, ⟨by (with_reducible repeat (first | apply Kd.R_alloc | apply Kd.R_drewN | apply Kd.R_drew)); exact Kd.R_mono HO826.out (fun _ hk => ⟨hk.1.2, hk.2⟩)⟩, ⟨by (with_reducible repeat (first | apply Kd.R_alloc | apply Kd.R_drewN | apply Kd.R_drew)); exact Kd.R_mono HO833.out (fun _ hk => ⟨hk.1.1.2, hk.1.2⟩)⟩, ⟨bU HB⟩⟩
       case round =>
        clear H'
        try clear c1; try clear p2; try clear c3; try clear c4; try clear c4b0; try clear c4b1; try clear c4b2; try clear c5; try clear p6; try clear c14; try clear c14b0; try clear c14b1; try clear c15; try clear c15b0; try clear c15b1; try clear p2; try clear p6
        obtain ⟨x9_2, x10_2, x43_2, rfl, rfl, HA, HK2, HO_5, HO_6, HO_9, HB⟩ := hrel
        have hl9_2 := (Kd.R_reads' HO_9.out).1
        rw [hl9_2] at HO_9
        (try simp only [hl9_2])
        (try simp only [hl9_2] at HO_5)
        (try simp only [hl9_2] at HO_6)
        cases gk with
        | zero => exact absurd HA.out (by simp [nat_Root.l1])
        | succ k2 =>
         have H := HA.out
         clear HA
         simp only [nat_Root.l1] at H
         by_cases c22 : x43_2 < (y831.length : Int)
         ·rw [if_pos c22] at H
          have c22b0 := decide_eq_true c22
          clear c22
          (try simp only [hl9_2] at c22b0)
          by_cases c23 : x43_2 < (t824.length : Int)
          ·rw [if_pos c23] at H
           have c23b0 := decide_eq_true c23
           clear c23
           (try simp only [hl9_2] at c23b0)
           by_cases c24 : 0 ≤ x43_2
           ·rw [if_pos c24] at H
            have c24b0 := decide_eq_true c24
            clear c24
            by_cases c25 : x43_2 < (x5_1.length : Int)
            ·rw [if_pos c25] at H
             have c25b0 := decide_eq_true c25
             clear c25
             (try simp only [hl9_2] at c25b0)
             replace H := oc H
             obtain ⟨⟨t836, t837⟩, A26, H⟩ := H
             dsimp only at H
             by_cases c27 : x43_2 < (x9_2.length : Int)
             ·rw [if_pos c27] at H
              have c27b0 := decide_eq_true c27
              clear c27
              (try simp only [hl9_2] at c27b0)
              obtain ⟨y838, hy838⟩ : ∃ y_ : List Int, y_ = (x9_2.set (x43_2 : Int).toNat t836) := ⟨_, rfl⟩
              try rw [← hy838] at H
              have Ny838 := Aside0.mk hy838
              clear hy838
              have H' := Aside0.mk H
              clear H
              have p834 : 0 ≤ (x43_2 : Int) := of_decide_eq_true (by first | (with_reducible assumption) | assumption)
              have q834 : x43_2 < (t824.length : Int) := of_decide_eq_true (by first | (with_reducible assumption) | assumption)
              obtain ⟨ad834, e834, hx834_0⟩ := Kd.at_int (Kd.R_reads' HO_6.out).2.2 x43_2 p834 q834
              cases e834
              replace p834 := eq_true p834
              replace q834 := eq_true q834
              have p835 : 0 ≤ (x43_2 : Int) := of_decide_eq_true (by first | (with_reducible assumption) | assumption)
              have q835 : x43_2 < (x5_1.length : Int) := of_decide_eq_true (by first | (with_reducible assumption) | assumption)
              obtain ⟨ad835, e835, hx835_0⟩ := Kd.at_int (Kd.R_reads' HO_5.out).2.2 x43_2 p835 q835
              cases e835
              replace p835 := eq_true p835
              replace q835 := eq_true q835
              go_wp2_with (first | ((with_reducible refine gc 45 rfl ?_); refine gL (some 68) Try.func45 #[.int .u32 (rd t824 x43_2), .int .u32 (rd x5_1 x43_2), .int .u32 x10_2] ?_; (with_reducible refine (bits_Add32.calls (rd t824 x43_2) (rd x5_1 x43_2) x10_2 t836 t837 _ A26.out).mono ?_); rintro e w' ⟨rfl, ⟨nd, rfl⟩⟩; refine ⟨_, rfl, ?_⟩; (try (rw [drewN_self wr]; generalize hq_ : World.drewN wr _ = wr; have n0_ : Aside0 (Kd.R (Kd.int .u32) 42 wr w.heap.size (fun k_ => some k_ ≠ (.slice (some ad834) t824.length co18 : Value).ownBlock ∧ some k_ ≠ (.slice Ao21 x9_2.length co21 : Value).ownBlock) (.slice (some ad835) x5_1.length co16) x5_1) := ⟨by rw [← hq_]; exact (rU HO_5)⟩; have n1_ : Aside0 (Kd.R (Kd.int .u32) 42 wr w.heap.size (fun k_ => some k_ ≠ (.slice (some ad835) x5_1.length co16 : Value).ownBlock ∧ some k_ ≠ (.slice Ao21 x9_2.length co21 : Value).ownBlock) (.slice (some ad834) t824.length co18) t824) := ⟨by rw [← hq_]; exact (rU HO_6)⟩; have n2_ : Aside0 (Kd.R (Kd.int .u32) 42 wr w.heap.size (fun k_ => some k_ ≠ (.slice (some ad835) x5_1.length co16 : Value).ownBlock ∧ some k_ ≠ (.slice (some ad834) t824.length co18 : Value).ownBlock) (.slice Ao21 x9_2.length co21) x9_2) := ⟨by rw [← hq_]; exact (rU HO_9)⟩; have n3_ : Aside0 (Below w.heap.size w wr) := ⟨by rw [← hq_]; exact (bU HB)⟩; clear HO_5 HO_6 HO_9 HB hq_; have HO_5 := n0_; have HO_6 := n1_; have HO_9 := n2_; have HB := n3_; clear n0_ n1_ n2_ n3_)); have p28 : 0 ≤ (x43_2 : Int) := of_decide_eq_true (by first | (with_reducible assumption) | assumption); have q28 : (x43_2 : Int) < ((x9_2.length : Int) : Int) := of_decide_eq_true (by first | (with_reducible assumption) | assumption); obtain ⟨go28, co28, eo28, gb28, gl28, cl28, HG28⟩ := Kd.R_form HO_9.out (by omega); (first | cases eo28 | (injection eo28 with ea_ en_ ec_; (first | subst ea_ | (injection ea_ with ea_; subst ea_)); subst ec_; clear en_)); have GB28 := Aside0.mk gb28; have GG28 := Aside0.mk HG28; clear gb28 gl28 HG28; obtain ⟨hx28_0, hf28_0⟩ := Kd.R_celln 0 HO_9.out (x43_2 : Int) p28 q28; replace p28 := eq_true p28; replace q28 := eq_true q28; obtain ⟨hy29_, hz29_⟩ := Kd.R_celln 0 HO_9.out (x43_2 : Int) od od; have HP29 := Kd.R_putg HO_9.out (x43_2 : Int) t836) | ((with_reducible refine gate_store (t := 42) (p := 71) rfl ?_); refine store_event (t := 42) (p := 71) (v := ?vo_w30) (w1 := (wr.setCell ⟨go28, (x43_2 : Int).toNat, none⟩ (.int .u32 t836))) ?hg ?ho ?hn ?hr ?_; (case ho => rfl); (case hg => rfl); (case hn => rfl); (case hr => first | (go_simp; done) | (go_simp; rfl)); intro w30 hw; have hg : wr.grownBy w30 (some go28) := (by rw [hw]; exact HP29.2); have hp_ : Kd.R (Kd.int .u32) 42 w30 w.heap.size (fun k_ => some k_ ≠ (.slice (some ad835) x5_1.length co16 : Value).ownBlock ∧ some k_ ≠ (.slice (some ad834) t824.length co18 : Value).ownBlock) (.slice (some ⟨go28, 0, none⟩) x9_2.length co21) y838 := (by rw [hw, Ny838.out]; exact HP29.1); clear HP29; replace HO_5 := Aside0.mk (Kd.R_after (v := (.slice (some ⟨go28, 0, none⟩) x9_2.length co21)) (v1 := (.slice (some ⟨go28, 0, none⟩) x9_2.length co21)) (ok := (fun k_ => some k_ ≠ (.slice (some ad834) t824.length co18 : Value).ownBlock)) (rU HO_5) hg (.inl rfl)); replace HO_6 := Aside0.mk (Kd.R_after (v := (.slice (some ⟨go28, 0, none⟩) x9_2.length co21)) (v1 := (.slice (some ⟨go28, 0, none⟩) x9_2.length co21)) (ok := (fun k_ => some k_ ≠ (.slice (some ad835) x5_1.length co16 : Value).ownBlock)) (rU HO_6) hg (.inl rfl)); replace HO_9 := Aside0.mk (hp_); replace HB := Aside0.mk ((by rw [hw]; exact below_set (HB.out) GB28.out : Below w.heap.size w w30)); clear hg hw hp_))
              (try simp only [← hl9_2])
              go_roundg k2
              case measure => have := HK1.out; have := HK2.out; omega
              case rel => exact ⟨(y838), (t837), (wrap64 (x43_2 + 1)), es, es, H', ⟨by have := HK1.out; have := HK2.out; omega⟩, ⟨by (try simp only [hl9_2]); (with_reducible repeat (first | apply Kd.R_alloc | apply Kd.R_drewN | apply Kd.R_drew)); exact HO_5.out⟩, ⟨by (try simp only [hl9_2]); (with_reducible repeat (first | apply Kd.R_alloc | apply Kd.R_drewN | apply Kd.R_drew)); exact HO_6.out⟩, ⟨by (try simp only [hl9_2]); (with_reducible repeat (first | apply Kd.R_alloc | apply Kd.R_drewN | apply Kd.R_drew)); exact HO_9.out⟩, ⟨bU HB⟩⟩
             ·rw [if_neg c27] at H
              exact absurd H (by simp)
            ·rw [if_neg c25] at H
             have c25b0 := decide_eq_false c25
             clear c25
             (try simp only [hl9_2] at c25b0)
             replace H := oc H
             obtain ⟨⟨t839, t840⟩, A31, H⟩ := H
             dsimp only at H
             by_cases c32 : x43_2 < (x9_2.length : Int)
             ·rw [if_pos c32] at H
              have c32b0 := decide_eq_true c32
              clear c32
              (try simp only [hl9_2] at c32b0)
              obtain ⟨y841, hy841⟩ : ∃ y_ : List Int, y_ = (x9_2.set (x43_2 : Int).toNat t839) := ⟨_, rfl⟩
              try rw [← hy841] at H
              have Ny841 := Aside0.mk hy841
              clear hy841
              have H' := Aside0.mk H
              clear H
              have p834 : 0 ≤ (x43_2 : Int) := of_decide_eq_true (by first | (with_reducible assumption) | assumption)
              have q834 : x43_2 < (t824.length : Int) := of_decide_eq_true (by first | (with_reducible assumption) | assumption)
              obtain ⟨ad834, e834, hx834_0⟩ := Kd.at_int (Kd.R_reads' HO_6.out).2.2 x43_2 p834 q834
              cases e834
              replace p834 := eq_true p834
              replace q834 := eq_true q834
              go_wp2_with (first | ((with_reducible refine gc 45 rfl ?_); refine gL (some 68) Try.func45 #[.int .u32 (rd t824 x43_2), .int .u32 0, .int .u32 x10_2] ?_; (with_reducible refine (bits_Add32.calls (rd t824 x43_2) 0 x10_2 t839 t840 _ A31.out).mono ?_); rintro e w' ⟨rfl, ⟨nd, rfl⟩⟩; refine ⟨_, rfl, ?_⟩; (try (rw [drewN_self wr]; generalize hq_ : World.drewN wr _ = wr; have n0_ : Aside0 (Kd.R (Kd.int .u32) 42 wr w.heap.size (fun k_ => some k_ ≠ (.slice (some ad834) t824.length co18 : Value).ownBlock ∧ some k_ ≠ (.slice Ao21 x9_2.length co21 : Value).ownBlock) (.slice Ao16 x5_1.length co16) x5_1) := ⟨by rw [← hq_]; exact (rU HO_5)⟩; have n1_ : Aside0 (Kd.R (Kd.int .u32) 42 wr w.heap.size (fun k_ => some k_ ≠ (.slice Ao16 x5_1.length co16 : Value).ownBlock ∧ some k_ ≠ (.slice Ao21 x9_2.length co21 : Value).ownBlock) (.slice (some ad834) t824.length co18) t824) := ⟨by rw [← hq_]; exact (rU HO_6)⟩; have n2_ : Aside0 (Kd.R (Kd.int .u32) 42 wr w.heap.size (fun k_ => some k_ ≠ (.slice Ao16 x5_1.length co16 : Value).ownBlock ∧ some k_ ≠ (.slice (some ad834) t824.length co18 : Value).ownBlock) (.slice Ao21 x9_2.length co21) x9_2) := ⟨by rw [← hq_]; exact (rU HO_9)⟩; have n3_ : Aside0 (Below w.heap.size w wr) := ⟨by rw [← hq_]; exact (bU HB)⟩; clear HO_5 HO_6 HO_9 HB hq_; have HO_5 := n0_; have HO_6 := n1_; have HO_9 := n2_; have HB := n3_; clear n0_ n1_ n2_ n3_)); have p33 : 0 ≤ (x43_2 : Int) := of_decide_eq_true (by first | (with_reducible assumption) | assumption); have q33 : (x43_2 : Int) < ((x9_2.length : Int) : Int) := of_decide_eq_true (by first | (with_reducible assumption) | assumption); obtain ⟨go33, co33, eo33, gb33, gl33, cl33, HG33⟩ := Kd.R_form HO_9.out (by omega); (first | cases eo33 | (injection eo33 with ea_ en_ ec_; (first | subst ea_ | (injection ea_ with ea_; subst ea_)); subst ec_; clear en_)); have GB33 := Aside0.mk gb33; have GG33 := Aside0.mk HG33; clear gb33 gl33 HG33; obtain ⟨hx33_0, hf33_0⟩ := Kd.R_celln 0 HO_9.out (x43_2 : Int) p33 q33; replace p33 := eq_true p33; replace q33 := eq_true q33; obtain ⟨hy34_, hz34_⟩ := Kd.R_celln 0 HO_9.out (x43_2 : Int) od od; have HP34 := Kd.R_putg HO_9.out (x43_2 : Int) t839) | ((with_reducible refine gate_store (t := 42) (p := 71) rfl ?_); refine store_event (t := 42) (p := 71) (v := ?vo_w35) (w1 := (wr.setCell ⟨go33, (x43_2 : Int).toNat, none⟩ (.int .u32 t839))) ?hg ?ho ?hn ?hr ?_; (case ho => rfl); (case hg => rfl); (case hn => rfl); (case hr => first | (go_simp; done) | (go_simp; rfl)); intro w35 hw; have hg : wr.grownBy w35 (some go33) := (by rw [hw]; exact HP34.2); have hp_ : Kd.R (Kd.int .u32) 42 w35 w.heap.size (fun k_ => some k_ ≠ (.slice Ao16 x5_1.length co16 : Value).ownBlock ∧ some k_ ≠ (.slice (some ad834) t824.length co18 : Value).ownBlock) (.slice (some ⟨go33, 0, none⟩) x9_2.length co21) y841 := (by rw [hw, Ny841.out]; exact HP34.1); clear HP34; replace HO_5 := Aside0.mk (Kd.R_after (v := (.slice (some ⟨go33, 0, none⟩) x9_2.length co21)) (v1 := (.slice (some ⟨go33, 0, none⟩) x9_2.length co21)) (ok := (fun k_ => some k_ ≠ (.slice (some ad834) t824.length co18 : Value).ownBlock)) (rU HO_5) hg (.inl rfl)); replace HO_6 := Aside0.mk (Kd.R_after (v := (.slice (some ⟨go33, 0, none⟩) x9_2.length co21)) (v1 := (.slice (some ⟨go33, 0, none⟩) x9_2.length co21)) (ok := (fun k_ => some k_ ≠ (.slice Ao16 x5_1.length co16 : Value).ownBlock)) (rU HO_6) hg (.inl rfl)); replace HO_9 := Aside0.mk (hp_); replace HB := Aside0.mk ((by rw [hw]; exact below_set (HB.out) GB33.out : Below w.heap.size w w35)); clear hg hw hp_))
              (try simp only [← hl9_2])
              go_roundg k2
              case measure => have := HK1.out; have := HK2.out; omega
              case rel => exact ⟨(y841), (t840), (wrap64 (x43_2 + 1)), es, es, H', ⟨by have := HK1.out; have := HK2.out; omega⟩, ⟨by (try simp only [hl9_2]); (with_reducible repeat (first | apply Kd.R_alloc | apply Kd.R_drewN | apply Kd.R_drew)); exact HO_5.out⟩, ⟨by (try simp only [hl9_2]); (with_reducible repeat (first | apply Kd.R_alloc | apply Kd.R_drewN | apply Kd.R_drew)); exact HO_6.out⟩, ⟨by (try simp only [hl9_2]); (with_reducible repeat (first | apply Kd.R_alloc | apply Kd.R_drewN | apply Kd.R_drew)); exact HO_9.out⟩, ⟨bU HB⟩⟩
             ·rw [if_neg c32] at H
              exact absurd H (by simp)
           ·rw [if_neg c24] at H
            exact absurd H (by simp)
          ·rw [if_neg c23] at H
           have c23b0 := decide_eq_false c23
           clear c23
           (try simp only [hl9_2] at c23b0)
           by_cases c36 : x43_2 < (x5_1.length : Int)
           ·rw [if_pos c36] at H
            have c36b0 := decide_eq_true c36
            clear c36
            (try simp only [hl9_2] at c36b0)
            by_cases c37 : 0 ≤ x43_2
            ·rw [if_pos c37] at H
             have c37b0 := decide_eq_true c37
             clear c37
             replace H := oc H
             obtain ⟨⟨t843, t844⟩, A38, H⟩ := H
             dsimp only at H
             by_cases c39 : x43_2 < (x9_2.length : Int)
             ·rw [if_pos c39] at H
              have c39b0 := decide_eq_true c39
              clear c39
              (try simp only [hl9_2] at c39b0)
              obtain ⟨y845, hy845⟩ : ∃ y_ : List Int, y_ = (x9_2.set (x43_2 : Int).toNat t843) := ⟨_, rfl⟩
              try rw [← hy845] at H
              have Ny845 := Aside0.mk hy845
              clear hy845
              have H' := Aside0.mk H
              clear H
              have p842 : 0 ≤ (x43_2 : Int) := of_decide_eq_true (by first | (with_reducible assumption) | assumption)
              have q842 : x43_2 < (x5_1.length : Int) := of_decide_eq_true (by first | (with_reducible assumption) | assumption)
              obtain ⟨ad842, e842, hx842_0⟩ := Kd.at_int (Kd.R_reads' HO_5.out).2.2 x43_2 p842 q842
              cases e842
              replace p842 := eq_true p842
              replace q842 := eq_true q842
              go_wp2_with (first | ((with_reducible refine gc 45 rfl ?_); refine gL (some 68) Try.func45 #[.int .u32 0, .int .u32 (rd x5_1 x43_2), .int .u32 x10_2] ?_; (with_reducible refine (bits_Add32.calls 0 (rd x5_1 x43_2) x10_2 t843 t844 _ A38.out).mono ?_); rintro e w' ⟨rfl, ⟨nd, rfl⟩⟩; refine ⟨_, rfl, ?_⟩; (try (rw [drewN_self wr]; generalize hq_ : World.drewN wr _ = wr; have n0_ : Aside0 (Kd.R (Kd.int .u32) 42 wr w.heap.size (fun k_ => some k_ ≠ (.slice Ao18 t824.length co18 : Value).ownBlock ∧ some k_ ≠ (.slice Ao21 x9_2.length co21 : Value).ownBlock) (.slice (some ad842) x5_1.length co16) x5_1) := ⟨by rw [← hq_]; exact (rU HO_5)⟩; have n1_ : Aside0 (Kd.R (Kd.int .u32) 42 wr w.heap.size (fun k_ => some k_ ≠ (.slice (some ad842) x5_1.length co16 : Value).ownBlock ∧ some k_ ≠ (.slice Ao21 x9_2.length co21 : Value).ownBlock) (.slice Ao18 t824.length co18) t824) := ⟨by rw [← hq_]; exact (rU HO_6)⟩; have n2_ : Aside0 (Kd.R (Kd.int .u32) 42 wr w.heap.size (fun k_ => some k_ ≠ (.slice (some ad842) x5_1.length co16 : Value).ownBlock ∧ some k_ ≠ (.slice Ao18 t824.length co18 : Value).ownBlock) (.slice Ao21 x9_2.length co21) x9_2) := ⟨by rw [← hq_]; exact (rU HO_9)⟩; have n3_ : Aside0 (Below w.heap.size w wr) := ⟨by rw [← hq_]; exact (bU HB)⟩; clear HO_5 HO_6 HO_9 HB hq_; have HO_5 := n0_; have HO_6 := n1_; have HO_9 := n2_; have HB := n3_; clear n0_ n1_ n2_ n3_)); have p40 : 0 ≤ (x43_2 : Int) := of_decide_eq_true (by first | (with_reducible assumption) | assumption); have q40 : (x43_2 : Int) < ((x9_2.length : Int) : Int) := of_decide_eq_true (by first | (with_reducible assumption) | assumption); obtain ⟨go40, co40, eo40, gb40, gl40, cl40, HG40⟩ := Kd.R_form HO_9.out (by omega); (first | cases eo40 | (injection eo40 with ea_ en_ ec_; (first | subst ea_ | (injection ea_ with ea_; subst ea_)); subst ec_; clear en_)); have GB40 := Aside0.mk gb40; have GG40 := Aside0.mk HG40; clear gb40 gl40 HG40; obtain ⟨hx40_0, hf40_0⟩ := Kd.R_celln 0 HO_9.out (x43_2 : Int) p40 q40; replace p40 := eq_true p40; replace q40 := eq_true q40; obtain ⟨hy41_, hz41_⟩ := Kd.R_celln 0 HO_9.out (x43_2 : Int) od od; have HP41 := Kd.R_putg HO_9.out (x43_2 : Int) t843) | ((with_reducible refine gate_store (t := 42) (p := 71) rfl ?_); refine store_event (t := 42) (p := 71) (v := ?vo_w42) (w1 := (wr.setCell ⟨go40, (x43_2 : Int).toNat, none⟩ (.int .u32 t843))) ?hg ?ho ?hn ?hr ?_; (case ho => rfl); (case hg => rfl); (case hn => rfl); (case hr => first | (go_simp; done) | (go_simp; rfl)); intro w42 hw; have hg : wr.grownBy w42 (some go40) := (by rw [hw]; exact HP41.2); have hp_ : Kd.R (Kd.int .u32) 42 w42 w.heap.size (fun k_ => some k_ ≠ (.slice (some ad842) x5_1.length co16 : Value).ownBlock ∧ some k_ ≠ (.slice Ao18 t824.length co18 : Value).ownBlock) (.slice (some ⟨go40, 0, none⟩) x9_2.length co21) y845 := (by rw [hw, Ny845.out]; exact HP41.1); clear HP41; replace HO_5 := Aside0.mk (Kd.R_after (v := (.slice (some ⟨go40, 0, none⟩) x9_2.length co21)) (v1 := (.slice (some ⟨go40, 0, none⟩) x9_2.length co21)) (ok := (fun k_ => some k_ ≠ (.slice Ao18 t824.length co18 : Value).ownBlock)) (rU HO_5) hg (.inl rfl)); replace HO_6 := Aside0.mk (Kd.R_after (v := (.slice (some ⟨go40, 0, none⟩) x9_2.length co21)) (v1 := (.slice (some ⟨go40, 0, none⟩) x9_2.length co21)) (ok := (fun k_ => some k_ ≠ (.slice (some ad842) x5_1.length co16 : Value).ownBlock)) (rU HO_6) hg (.inl rfl)); replace HO_9 := Aside0.mk (hp_); replace HB := Aside0.mk ((by rw [hw]; exact below_set (HB.out) GB40.out : Below w.heap.size w w42)); clear hg hw hp_))
              (try simp only [← hl9_2])
              go_roundg k2
              case measure => have := HK1.out; have := HK2.out; omega
              case rel => exact ⟨(y845), (t844), (wrap64 (x43_2 + 1)), es, es, H', ⟨by have := HK1.out; have := HK2.out; omega⟩, ⟨by (try simp only [hl9_2]); (with_reducible repeat (first | apply Kd.R_alloc | apply Kd.R_drewN | apply Kd.R_drew)); exact HO_5.out⟩, ⟨by (try simp only [hl9_2]); (with_reducible repeat (first | apply Kd.R_alloc | apply Kd.R_drewN | apply Kd.R_drew)); exact HO_6.out⟩, ⟨by (try simp only [hl9_2]); (with_reducible repeat (first | apply Kd.R_alloc | apply Kd.R_drewN | apply Kd.R_drew)); exact HO_9.out⟩, ⟨bU HB⟩⟩
             ·rw [if_neg c39] at H
              exact absurd H (by simp)
            ·rw [if_neg c37] at H
             exact absurd H (by simp)
           ·rw [if_neg c36] at H
            have c36b0 := decide_eq_false c36
            clear c36
            (try simp only [hl9_2] at c36b0)
            replace H := oc H
            obtain ⟨⟨t846, t847⟩, A43, H⟩ := H
            dsimp only at H
            by_cases c44 : 0 ≤ x43_2
            ·rw [if_pos c44] at H
             have c44b0 := decide_eq_true c44
             clear c44
             by_cases c45 : x43_2 < (x9_2.length : Int)
             ·rw [if_pos c45] at H
              have c45b0 := decide_eq_true c45
              clear c45
              (try simp only [hl9_2] at c45b0)
              obtain ⟨y848, hy848⟩ : ∃ y_ : List Int, y_ = (x9_2.set (x43_2 : Int).toNat t846) := ⟨_, rfl⟩
              try rw [← hy848] at H
              have Ny848 := Aside0.mk hy848
              clear hy848
              have H' := Aside0.mk H
              clear H
              go_wp2_with (first | ((with_reducible refine gc 45 rfl ?_); refine gL (some 68) Try.func45 #[.int .u32 0, .int .u32 0, .int .u32 x10_2] ?_; (with_reducible refine (bits_Add32.calls 0 0 x10_2 t846 t847 _ A43.out).mono ?_); rintro e w' ⟨rfl, ⟨nd, rfl⟩⟩; refine ⟨_, rfl, ?_⟩; (try (rw [drewN_self wr]; generalize hq_ : World.drewN wr _ = wr; have n0_ : Aside0 (Kd.R (Kd.int .u32) 42 wr w.heap.size (fun k_ => some k_ ≠ (.slice Ao18 t824.length co18 : Value).ownBlock ∧ some k_ ≠ (.slice Ao21 x9_2.length co21 : Value).ownBlock) (.slice Ao16 x5_1.length co16) x5_1) := ⟨by rw [← hq_]; exact (rU HO_5)⟩; have n1_ : Aside0 (Kd.R (Kd.int .u32) 42 wr w.heap.size (fun k_ => some k_ ≠ (.slice Ao16 x5_1.length co16 : Value).ownBlock ∧ some k_ ≠ (.slice Ao21 x9_2.length co21 : Value).ownBlock) (.slice Ao18 t824.length co18) t824) := ⟨by rw [← hq_]; exact (rU HO_6)⟩; have n2_ : Aside0 (Kd.R (Kd.int .u32) 42 wr w.heap.size (fun k_ => some k_ ≠ (.slice Ao16 x5_1.length co16 : Value).ownBlock ∧ some k_ ≠ (.slice Ao18 t824.length co18 : Value).ownBlock) (.slice Ao21 x9_2.length co21) x9_2) := ⟨by rw [← hq_]; exact (rU HO_9)⟩; have n3_ : Aside0 (Below w.heap.size w wr) := ⟨by rw [← hq_]; exact (bU HB)⟩; clear HO_5 HO_6 HO_9 HB hq_; have HO_5 := n0_; have HO_6 := n1_; have HO_9 := n2_; have HB := n3_; clear n0_ n1_ n2_ n3_)); have p46 : 0 ≤ (x43_2 : Int) := of_decide_eq_true (by first | (with_reducible assumption) | assumption); have q46 : (x43_2 : Int) < ((x9_2.length : Int) : Int) := of_decide_eq_true (by first | (with_reducible assumption) | assumption); obtain ⟨go46, co46, eo46, gb46, gl46, cl46, HG46⟩ := Kd.R_form HO_9.out (by omega); (first | cases eo46 | (injection eo46 with ea_ en_ ec_; (first | subst ea_ | (injection ea_ with ea_; subst ea_)); subst ec_; clear en_)); have GB46 := Aside0.mk gb46; have GG46 := Aside0.mk HG46; clear gb46 gl46 HG46; obtain ⟨hx46_0, hf46_0⟩ := Kd.R_celln 0 HO_9.out (x43_2 : Int) p46 q46; replace p46 := eq_true p46; replace q46 := eq_true q46; obtain ⟨hy47_, hz47_⟩ := Kd.R_celln 0 HO_9.out (x43_2 : Int) od od; have HP47 := Kd.R_putg HO_9.out (x43_2 : Int) t846) | ((with_reducible refine gate_store (t := 42) (p := 71) rfl ?_); refine store_event (t := 42) (p := 71) (v := ?vo_w48) (w1 := (wr.setCell ⟨go46, (x43_2 : Int).toNat, none⟩ (.int .u32 t846))) ?hg ?ho ?hn ?hr ?_; (case ho => rfl); (case hg => rfl); (case hn => rfl); (case hr => first | (go_simp; done) | (go_simp; rfl)); intro w48 hw; have hg : wr.grownBy w48 (some go46) := (by rw [hw]; exact HP47.2); have hp_ : Kd.R (Kd.int .u32) 42 w48 w.heap.size (fun k_ => some k_ ≠ (.slice Ao16 x5_1.length co16 : Value).ownBlock ∧ some k_ ≠ (.slice Ao18 t824.length co18 : Value).ownBlock) (.slice (some ⟨go46, 0, none⟩) x9_2.length co21) y848 := (by rw [hw, Ny848.out]; exact HP47.1); clear HP47; replace HO_5 := Aside0.mk (Kd.R_after (v := (.slice (some ⟨go46, 0, none⟩) x9_2.length co21)) (v1 := (.slice (some ⟨go46, 0, none⟩) x9_2.length co21)) (ok := (fun k_ => some k_ ≠ (.slice Ao18 t824.length co18 : Value).ownBlock)) (rU HO_5) hg (.inl rfl)); replace HO_6 := Aside0.mk (Kd.R_after (v := (.slice (some ⟨go46, 0, none⟩) x9_2.length co21)) (v1 := (.slice (some ⟨go46, 0, none⟩) x9_2.length co21)) (ok := (fun k_ => some k_ ≠ (.slice Ao16 x5_1.length co16 : Value).ownBlock)) (rU HO_6) hg (.inl rfl)); replace HO_9 := Aside0.mk (hp_); replace HB := Aside0.mk ((by rw [hw]; exact below_set (HB.out) GB46.out : Below w.heap.size w w48)); clear hg hw hp_))
              (try simp only [← hl9_2])
              go_roundg k2
              case measure => have := HK1.out; have := HK2.out; omega
              case rel => exact ⟨(y848), (t847), (wrap64 (x43_2 + 1)), es, es, H', ⟨by have := HK1.out; have := HK2.out; omega⟩, ⟨by (try simp only [hl9_2]); (with_reducible repeat (first | apply Kd.R_alloc | apply Kd.R_drewN | apply Kd.R_drew)); exact HO_5.out⟩, ⟨by (try simp only [hl9_2]); (with_reducible repeat (first | apply Kd.R_alloc | apply Kd.R_drewN | apply Kd.R_drew)); exact HO_6.out⟩, ⟨by (try simp only [hl9_2]); (with_reducible repeat (first | apply Kd.R_alloc | apply Kd.R_drewN | apply Kd.R_drew)); exact HO_9.out⟩, ⟨bU HB⟩⟩
             ·rw [if_neg c45] at H
              exact absurd H (by simp)
            ·rw [if_neg c44] at H
             exact absurd H (by simp)
         ·rw [if_neg c22] at H
          have c22b0 := decide_eq_false c22
          clear c22
          (try simp only [hl9_2] at c22b0)
          replace H := oc H
          obtain ⟨t849, A49, H⟩ := H
          replace H := oc H
          obtain ⟨t852, A50, H⟩ := H
          replace H := oc H
          obtain ⟨t855, A51, H⟩ := H
          by_cases c52 : t855 ≥ 0
          ·rw [if_pos c52] at H
           have c52b0 : decide (0 ≤ t855) = true := decide_eq_true c52
           clear c52
           replace H := oc H
           obtain ⟨t856, A53, H⟩ := H
           replace H := oc H
           obtain ⟨t859, A54, H⟩ := H
           simp only [Option.some.injEq, Prod.mk.injEq] at H
           obtain ⟨rfl, rfl, rfl⟩ := H
           go_wp2_with (first | ((with_reducible refine gc 41 rfl ?_); refine gL (some 74) Try.func41 #[.slice Ao21 x9_2.length co21] ?_; (with_reducible refine (nat_trim.calls k2 (fun k_ => some k_ = (.slice Ao21 x9_2.length co21 : Value).ownBlock) (.slice Ao21 x9_2.length co21) x9_2 t849 w _ ?side1 ?side2 A49.out).mono ?_); (case side1 => exact bU HB); (case side2 => exact Kd.R_tight rfl HO_9.out); rintro e w55 ⟨v850, rfl, ho0, hb, hkp⟩; refine ⟨_, rfl, ?_⟩; have HO851 := Aside0.mk (Kd.R_mono (ok' := fun k_ => some k_ ≠ (.slice Ao16 x5_1.length co16 : Value).ownBlock ∧ some k_ ≠ (.slice Ao18 t824.length co18 : Value).ownBlock) ho0 (fun k_ hk_ => ⟨Or.elim hk_ (fun hs_ => fun e_ => (((HO_5.out).1 k_ e_.symm).2) hs_) (fun hn_ => (Kd.fresh' (Kd.R_lt (rU HO_5)) k_ hn_)), Or.elim hk_ (fun hs_ => fun e_ => (((HO_6.out).1 k_ e_.symm).2) hs_) (fun hn_ => (Kd.fresh' (Kd.R_lt (rU HO_6)) k_ hn_))⟩)); replace HO_5 := Aside0.mk (Kd.R_mono (ok' := fun k_ => some k_ ≠ (.slice Ao18 t824.length co18 : Value).ownBlock ∧ some k_ ≠ (v850 : Value).ownBlock) (Kd.R_keptB (HO_5.out) hkp (fun k_ hk_ hs_ => (hk_.2) hs_)) (fun k_ hk_ => ⟨hk_.1.1, fun e_ => Or.elim (ho0.1 k_ e_.symm) (fun hs_ => hk_.2.1 hs_) (fun hn_ => Nat.not_le.2 hk_.2.2 hn_)⟩)); replace HO_6 := Aside0.mk (Kd.R_mono (ok' := fun k_ => some k_ ≠ (.slice Ao16 x5_1.length co16 : Value).ownBlock ∧ some k_ ≠ (v850 : Value).ownBlock) (Kd.R_keptB (HO_6.out) hkp (fun k_ hk_ hs_ => (hk_.2) hs_)) (fun k_ hk_ => ⟨hk_.1.1, fun e_ => Or.elim (ho0.1 k_ e_.symm) (fun hs_ => hk_.2.1 hs_) (fun hn_ => Nat.not_le.2 hk_.2.2 hn_)⟩)); replace HB := Aside0.mk (hb); clear HO_9; clear hb hkp ho0; obtain ⟨Ao56, co56, rfl⟩ := Kd.R_slice HO851.out) | ((with_reducible refine gc 60 rfl ?_); refine gL (some 75) Try.func60 #[.slice Ao56 t849.length co56, .int .i64 1] ?_; (with_reducible refine (nat_down.calls k2 _ _ t849 1 t852 _ ?side1 ?side2 A50.out).mono ?_); (case side1 => exact rC HO851); (case side2 => exact rN HO851); rintro e w57 ⟨v853, rfl, ho0, hb⟩; refine ⟨_, rfl, ?_⟩; have HO854 := rL (rX (rX (rX ho0 HO_5) HO_6) HO851) HB; replace HO_5 := rE HO_5 ho0 hb; replace HO_6 := rE HO_6 ho0 hb; replace HO851 := rE HO851 ho0 hb; replace HB := bS HB hb; clear hb ho0; obtain ⟨Ao58, co58, rfl⟩ := Kd.R_slice HO854.out) | ((with_reducible refine gc 44 rfl ?_); refine gL (some 78) Try.func44 #[.slice Ao58 t852.length co58, .slice Ao16 x5_1.length co16] ?_; (with_reducible refine (nat_cmp.calls k2 _ _ t852 _ _ x5_1 t855 _ ?side1 ?side2 ?side3 ?side4 A51.out).mono ?_); (case side1 => exact rC HO854); (case side2 => exact rN HO854); (case side3 => exact rC HO_5); (case side4 => exact rN HO_5); rintro e w' ⟨rfl, ⟨nd, rfl⟩⟩; refine ⟨_, rfl, ?_⟩) | ((with_reducible refine gc 48 rfl ?_); refine gL (some 83) Try.func48 #[.slice Ao16 x5_1.length co16, .slice Ao16 x5_1.length co16] ?_; (with_reducible refine (nat_mul.calls k2 _ _ x5_1 _ _ x5_1 t856 _ ?side1 ?side2 ?side3 ?side4 A53.out).mono ?_); (case side1 => exact rC HO_5); (case side2 => exact rN HO_5); (case side3 => exact rC HO_5); (case side4 => exact rN HO_5); rintro e w59 ⟨v857, rfl, ho0, hb⟩; refine ⟨_, rfl, ?_⟩; have HO858 := rL (rX (rX (rX (rX ho0 HO_5) HO_6) HO851) HO854) HB; replace HO_5 := rE HO_5 ho0 hb; replace HO_6 := rE HO_6 ho0 hb; replace HO851 := rE HO851 ho0 hb; replace HO854 := rE HO854 ho0 hb; replace HB := bS HB hb; clear hb ho0; obtain ⟨Ao60, co60, rfl⟩ := Kd.R_slice HO858.out) | ((with_reducible refine gc 44 rfl ?_); refine gL (some 85) Try.func44 #[.slice Ao60 t856.length co60, .slice A0 l0.length c0] ?_; (with_reducible refine (nat_cmp.calls k2 _ _ t856 _ _ l0 t859 _ ?side1 ?side2 ?side3 ?side4 A54.out).mono ?_); (case side1 => exact rC HO858); (case side2 => exact rN HO858); (case side3 => exact cB HR0 HB); (case side4 => exact HC0.out); rintro e w' ⟨rfl, ⟨nd, rfl⟩⟩; refine ⟨_, rfl, ?_⟩))
           go_ret3
           exact ⟨_, by first | rfl | (simp [errW_none, errW_some] <;> rfl) | (simp only [← hji12, ← hji13]; first | rfl | (simp [errW_none, errW_some] <;> rfl)) | (simp [*, errW_none, errW_some] <;> rfl), by (with_reducible repeat (first | apply Kd.R_alloc | apply Kd.R_drewN | apply Kd.R_drew)); exact Kd.R_mono HO_5.out (fun _ hk => trivial), bU HB⟩
          ·rw [if_neg c52] at H
           have c52b0 : decide (0 ≤ t855) = false := decide_eq_false c52
           clear c52
           have H' := Aside0.mk H
           clear H
           go_wp2_with (first | ((with_reducible refine gc 41 rfl ?_); refine gL (some 74) Try.func41 #[.slice Ao21 x9_2.length co21] ?_; (with_reducible refine (nat_trim.calls k2 (fun k_ => some k_ = (.slice Ao21 x9_2.length co21 : Value).ownBlock) (.slice Ao21 x9_2.length co21) x9_2 t849 w _ ?side1 ?side2 A49.out).mono ?_); (case side1 => exact bU HB); (case side2 => exact Kd.R_tight rfl HO_9.out); rintro e w61 ⟨v850, rfl, ho0, hb, hkp⟩; refine ⟨_, rfl, ?_⟩; have HO851 := Aside0.mk (Kd.R_mono (ok' := fun k_ => some k_ ≠ (.slice Ao16 x5_1.length co16 : Value).ownBlock ∧ some k_ ≠ (.slice Ao18 t824.length co18 : Value).ownBlock) ho0 (fun k_ hk_ => ⟨Or.elim hk_ (fun hs_ => fun e_ => (((HO_5.out).1 k_ e_.symm).2) hs_) (fun hn_ => (Kd.fresh' (Kd.R_lt (rU HO_5)) k_ hn_)), Or.elim hk_ (fun hs_ => fun e_ => (((HO_6.out).1 k_ e_.symm).2) hs_) (fun hn_ => (Kd.fresh' (Kd.R_lt (rU HO_6)) k_ hn_))⟩)); replace HO_5 := Aside0.mk (Kd.R_mono (ok' := fun k_ => some k_ ≠ (.slice Ao18 t824.length co18 : Value).ownBlock ∧ some k_ ≠ (v850 : Value).ownBlock) (Kd.R_keptB (HO_5.out) hkp (fun k_ hk_ hs_ => (hk_.2) hs_)) (fun k_ hk_ => ⟨hk_.1.1, fun e_ => Or.elim (ho0.1 k_ e_.symm) (fun hs_ => hk_.2.1 hs_) (fun hn_ => Nat.not_le.2 hk_.2.2 hn_)⟩)); replace HO_6 := Aside0.mk (Kd.R_mono (ok' := fun k_ => some k_ ≠ (.slice Ao16 x5_1.length co16 : Value).ownBlock ∧ some k_ ≠ (v850 : Value).ownBlock) (Kd.R_keptB (HO_6.out) hkp (fun k_ hk_ hs_ => (hk_.2) hs_)) (fun k_ hk_ => ⟨hk_.1.1, fun e_ => Or.elim (ho0.1 k_ e_.symm) (fun hs_ => hk_.2.1 hs_) (fun hn_ => Nat.not_le.2 hk_.2.2 hn_)⟩)); replace HB := Aside0.mk (hb); clear HO_9; clear hb hkp ho0; obtain ⟨Ao62, co62, rfl⟩ := Kd.R_slice HO851.out) | ((with_reducible refine gc 60 rfl ?_); refine gL (some 75) Try.func60 #[.slice Ao62 t849.length co62, .int .i64 1] ?_; (with_reducible refine (nat_down.calls k2 _ _ t849 1 t852 _ ?side1 ?side2 A50.out).mono ?_); (case side1 => exact rC HO851); (case side2 => exact rN HO851); rintro e w63 ⟨v853, rfl, ho0, hb⟩; refine ⟨_, rfl, ?_⟩; have HO854 := rL (rX (rX (rX ho0 HO_5) HO_6) HO851) HB; replace HO_5 := rE HO_5 ho0 hb; replace HO_6 := rE HO_6 ho0 hb; replace HO851 := rE HO851 ho0 hb; replace HB := bS HB hb; clear hb ho0; obtain ⟨Ao64, co64, rfl⟩ := Kd.R_slice HO854.out) | ((with_reducible refine gc 44 rfl ?_); refine gL (some 78) Try.func44 #[.slice Ao64 t852.length co64, .slice Ao16 x5_1.length co16] ?_; (with_reducible refine (nat_cmp.calls k2 _ _ t852 _ _ x5_1 t855 _ ?side1 ?side2 ?side3 ?side4 A51.out).mono ?_); (case side1 => exact rC HO854); (case side2 => exact rN HO854); (case side3 => exact rC HO_5); (case side4 => exact rN HO_5); rintro e w' ⟨rfl, ⟨nd, rfl⟩⟩; refine ⟨_, rfl, ?_⟩))
           (try simp only [← hl9_2])
           go_roundg k2
           case measure => have := HK1.out; have := HK2.out; omega
           case rel => exact ⟨(t852), H', ⟨by have := HK1.out; have := HK2.out; omega⟩, ⟨by (try simp only [hl9_2]); (with_reducible repeat (first | apply Kd.R_alloc | apply Kd.R_drewN | apply Kd.R_drew)); exact Kd.R_mono HO854.out (fun _ hk => trivial)⟩, ⟨bU HB⟩⟩
      ·rw [if_neg c15] at H
       exact absurd H (by simp)
     ·rw [if_neg c14] at H
      exact absurd H (by simp)
 ·replace c3 := Bool.eq_false_iff.mpr c3
  subst c3
  rw [if_neg (show ¬ (false = true) by decide)] at H
  simp only [Option.some.injEq, Prod.mk.injEq] at H
  obtain ⟨rfl, rfl, rfl⟩ := H
  go_enter Try.func39, Try.ntmps39
  go_wp2_with (first | ((with_reducible refine gc 15 rfl ?_); refine gL (some 16) Try.func15 #[.slice A0 l0.length c0] ?_; (with_reducible refine (nat_May.calls _ _ l0 false _ ?side1 ?side2 A2.out).mono ?_); (case side1 => exact cU HR0); (case side2 => exact HC0.out); rintro e w' ⟨rfl, ⟨nd, rfl⟩⟩; refine ⟨_, rfl, ?_⟩))
  go_ret3
  exact ⟨_, by first | rfl | (simp [errW_none, errW_some] <;> rfl) | (simp [*, errW_none, errW_some] <;> rfl), by first | exact Kd.R_nil _ _ _ _ _ | exact Kd.N_nil _ _ _ _ _ | exact Kd.V_nil _ _ _ _ _ | exact Kd.Q_nil _ _ _ _ _ | exact Kd.S_nil _ _ _ _ _, bU HB⟩

end Go.Proofs.Ytldcelgbinenbaa.Px

namespace Go.Proofs.Ytldcelgbinenbaa.Px
open Go.RowKit Go.Proofs.YtldcelgbinenbaaW.PrintWords Go.Proofs.YtldcelgbinenbaaW.PrintLast Go.Proofs.YtldcelgbinenbaaW.PrintMore
attribute [local go_sem] max2_int min2_int max_two min_two max_three min_three max_four min_four   -- for this text's walks alone
set_option linter.unusedVariables false
set_option linter.unusedSimpArgs false

/-! ### cutplaneref01_Trim: function 42 -/
def cutplaneref01_Trim.l0 : Nat → List Int → Int → Option (List Int)
 | 0, _, _ => none
 | k + 1, x0, x3 => if x3 > 0 then (if 0 ≤ (wrap64 (x3 - 1)) then (if (wrap64 (x3 - 1)) < (x0.length : Int) then (if (rd x0 (wrap64 (x3 - 1))) = 0 then (cutplaneref01_Trim.l0 k x0 (wrap64 (x3 - 1))) else (if 0 ≤ x3 then (if x3 ≤ (x0.length : Int) then (some (x0.take (x3 : Int).toNat)) else (none)) else (none))) else (none)) else (none)) else (if 0 ≤ x3 then (if x3 ≤ (x0.length : Int) then (some (x0.take (x3 : Int).toNat)) else (none)) else (none))
def cutplaneref01_Trim.f (k : Nat) (l0 : List Int) : Option (List Int) := cutplaneref01_Trim.l0 k l0 (l0.length : Int)
theorem cutplaneref01_Trim.mono_l : ∀ k, (∀ y0 y1, LeO (cutplaneref01_Trim.l0 k y0 y1) (cutplaneref01_Trim.l0 (k + 1) y0 y1))
 | 0 => fun _ _ r h => by simp [cutplaneref01_Trim.l0] at h
 | k + 1 => by
  have ih0 := cutplaneref01_Trim.mono_l k
  ·intro y0 y1
   unfold cutplaneref01_Trim.l0
   repeat' (with_reducible first | exact ih0 _ _ | exact LeO.refl _ | exact LeO.none _ | refine LeO.ite ?_ ?_ | refine LeO.bind ?_ (fun _ => ?_))
theorem cutplaneref01_Trim.mono : ∀ a0 k, LeO (cutplaneref01_Trim.f k a0) (cutplaneref01_Trim.f (k + 1) a0) := by
 intro a0 k
 have ih0 := cutplaneref01_Trim.mono_l k
 unfold cutplaneref01_Trim.f
 repeat' (with_reducible first | exact ih0 _ _ | exact LeO.refl _ | exact LeO.none _ | refine LeO.ite ?_ ?_ | refine LeO.bind ?_ (fun _ => ?_))
set_option maxHeartbeats 8000000 in
set_option maxRecDepth 100000 in
theorem cutplaneref01_Trim.calls (k : Nat) (P0_ : Nat → Prop) (u9000_ : Value) (l0 : List Int) (r : List Int) (w0 w : World) (hB : Below w0.heap.size w0 w) (ho0 : Kd.R (Kd.int .u32) 42 w w0.heap.size P0_ u9000_ l0) (h : cutplaneref01_Trim.f k l0 = some r) :
  Calls Try.prog 42 #[u9000_] w fun e w' => ∃ v0_ : Value, e = .returned (v0_) ∧ Kd.R (Kd.int .u32) 42 w' w0.heap.size (fun k_ => (P0_ k_ ∨ w.heap.size ≤ k_)) v0_ r ∧ Below w0.heap.size w0 w' ∧ Kept w w' (fun k_ => P0_ k_) := by
 have HO0 := Aside0.mk (show Kd.R (Kd.int .u32) 42 w w0.heap.size (fun k_ => (P0_ k_ ∨ w.heap.size ≤ k_)) u9000_ l0 from Kd.R_mono ho0 (fun k_ hk => (.inl hk)))
 have HK := Aside0.mk (Kept.refl w (fun k_ => P0_ k_))
 have HW0 := Aside0.mk hB.size
 have HB := Aside0.mk hB
 clear hB
 have H := h
 unfold cutplaneref01_Trim.f at H
 clear h
 have H' := Aside0.mk H
 clear H
 obtain ⟨Ao2, co2, eo2⟩ := Kd.R_slice HO0.out
 subst eo2
 go_enter Try.func42, Try.ntmps42
 go_wp2
 go_loopg [3] k (fun kq v3 w' => ∃ (x3_1 : Int), v3 = .int .i64 x3_1 ∧ Aside0 (cutplaneref01_Trim.l0 kq l0 x3_1 = some r) ∧ Aside0 (kq ≤ k) ∧ Aside0 (Kd.R (Kd.int .u32) 42 w' w0.heap.size (fun k_ => (P0_ k_ ∨ w.heap.size ≤ k_)) (.slice Ao2 l0.length co2) l0) ∧ Aside0 (Kept w w' (fun k_ => P0_ k_)) ∧ Aside0 (Below w0.heap.size w0 w'))
 case atStart => exact ⟨((l0.length : Int)), es, H', ⟨Nat.le_refl _⟩, ⟨rU HO0⟩, ⟨by repeat (first | (with_reducible first | exact HK.out | apply Kept.alloc | apply Kept.drewN | apply Kept.drew) | exact HK.out)⟩, ⟨bU HB⟩⟩
 case round =>
  clear H'
  try clear p2
  obtain ⟨x3_1, rfl, HA, HK1, HO_0, HK, HB⟩ := hrel
  cases gk with
  | zero => exact absurd HA.out (by simp [cutplaneref01_Trim.l0])
  | succ k1 =>
   have H := HA.out
   clear HA
   simp only [cutplaneref01_Trim.l0] at H
   by_cases c3 : x3_1 > 0
   ·rw [if_pos c3] at H
    have c3b0 : decide (0 < x3_1) = true := decide_eq_true c3
    clear c3
    obtain ⟨ji4, hji4⟩ : ∃ j_ : Int, (wrap64 (x3_1 - 1)) = j_ := ⟨_, rfl⟩
    (first | rw [hji4] at H | simp only [hji4] at H)
    have hji4w : (IntKind.i64.wrap (x3_1 - 1)) = ji4 := (i64_w _).trans hji4
    by_cases c5 : 0 ≤ (ji4)
    ·rw [if_pos c5] at H
     have c5b0 := decide_eq_true c5
     clear c5
     by_cases c6 : (ji4) < (l0.length : Int)
     ·rw [if_pos c6] at H
      have c6b0 := decide_eq_true c6
      clear c6
      by_cases c7 : (rd l0 (ji4)) = 0
      ·rw [if_pos c7] at H
       have c7b0 : ((rd l0 (ji4)) == 0) = true := beq_iff_eq.mpr c7
       have c7b1 : ((rd l0 (ji4)) != 0) = false := bne_eq_false_iff_eq.mpr c7
       clear c7
       have H' := Aside0.mk H
       clear H
       have p161 : 0 ≤ ((ji4) : Int) := of_decide_eq_true (by first | (with_reducible assumption) | assumption)
       have q161 : (ji4) < (l0.length : Int) := of_decide_eq_true (by first | (with_reducible assumption) | assumption)
       obtain ⟨ad161, e161, hx161_0⟩ := Kd.at_int (Kd.R_reads' HO_0.out).2.2 (ji4) p161 q161
       cases e161
       replace p161 := eq_true p161
       replace q161 := eq_true q161
       go_wp2
       go_roundg k1
       case measure => have := HK1.out; omega
       case rel => exact ⟨(ji4), (by first | rfl | (simp; done) | (simp only [← hji4] <;> (first | rfl | simp)) | (simp [*]; done)), H', ⟨by have := HK1.out; omega⟩, ⟨rU HO_0⟩, ⟨by repeat (first | (with_reducible first | exact HK.out | apply Kept.alloc | apply Kept.drewN | apply Kept.drew) | exact HK.out)⟩, ⟨bU HB⟩⟩
      ·rw [if_neg c7] at H
       have c7b0 : ((rd l0 (ji4)) == 0) = false := beq_eq_false_iff_ne.mpr c7
       have c7b1 : ((rd l0 (ji4)) != 0) = true := bne_iff_ne.mpr c7
       by_cases c8 : 0 ≤ x3_1
       ·rw [if_pos c8] at H
        have c8b0 := eq_true c8
        have c8b1 := decide_eq_true c8
        clear c8
        by_cases c9 : x3_1 ≤ (l0.length : Int)
        ·rw [if_pos c9] at H
         have c9b0 := eq_true c9
         have c9b1 := decide_eq_true c9
         clear c9
         obtain ⟨y162, hy162⟩ : ∃ y_ : List Int, y_ = (l0.take (x3_1 : Int).toNat) := ⟨_, rfl⟩
         try rw [← hy162] at H
         have Ny162 := Aside0.mk hy162
         clear hy162
         obtain rfl := Option.some.inj H
         have p161 : 0 ≤ ((ji4) : Int) := of_decide_eq_true (by first | (with_reducible assumption) | assumption)
         have q161 : (ji4) < (l0.length : Int) := of_decide_eq_true (by first | (with_reducible assumption) | assumption)
         obtain ⟨ad161, e161, hx161_0⟩ := Kd.at_int (Kd.R_reads' HO_0.out).2.2 (ji4) p161 q161
         cases e161
         replace p161 := eq_true p161
         replace q161 := eq_true q161
         have q10 : (x3_1 : Int) ≤ ((l0.length : Int) : Int) := of_decide_eq_true (by first | (with_reducible assumption) | assumption)
         obtain ⟨i010, hi010, _, hsz10, _⟩ := info_parts info42
         have hcut10 := cut_to (P := Try.prog) 22 42 .i64 Try.underlying22 hi010 (some ad161) l0.length co2 x3_1 od q10 (rN HO_0)
         have hr10 := Kd.R_take (m := (x3_1 : Int).toNat) HO_0.out (by omega)
         have hy10 : y162.length = (x3_1 : Int).toNat := (by rw [Ny162.out, List.length_take]; omega)
         rw [← Ny162.out] at hr10
         rw [← hy10] at hr10 hcut10
         clear hy10 hi010 hsz10 HO_0
         have HO164 := Aside0.mk hr10
         clear hr10
         replace q10 := eq_true q10
         go_wp2
         go_ret
         exact ⟨_, by first | rfl | (simp [errW_none, errW_some] <;> rfl) | (simp only [← hji4]; first | rfl | (simp [errW_none, errW_some] <;> rfl)) | (simp [*, errW_none, errW_some] <;> rfl), rU HO164, bU HB, by repeat (first | (with_reducible first | exact HK.out | apply Kept.alloc | apply Kept.drewN | apply Kept.drew) | exact HK.out)⟩
        ·rw [if_neg c9] at H
         exact absurd H (by simp)
       ·rw [if_neg c8] at H
        exact absurd H (by simp)
     ·rw [if_neg c6] at H
      exact absurd H (by simp)
    ·rw [if_neg c5] at H
     exact absurd H (by simp)
   ·rw [if_neg c3] at H
    have c3b0 : decide (0 < x3_1) = false := decide_eq_false c3
    clear c3
    by_cases c11 : 0 ≤ x3_1
    ·rw [if_pos c11] at H
     have c11b0 := eq_true c11
     have c11b1 := decide_eq_true c11
     clear c11
     by_cases c12 : x3_1 ≤ (l0.length : Int)
     ·rw [if_pos c12] at H
      have c12b0 := eq_true c12
      have c12b1 := decide_eq_true c12
      clear c12
      obtain ⟨y165, hy165⟩ : ∃ y_ : List Int, y_ = (l0.take (x3_1 : Int).toNat) := ⟨_, rfl⟩
      try rw [← hy165] at H
      have Ny165 := Aside0.mk hy165
      clear hy165
      obtain rfl := Option.some.inj H
      have q13 : (x3_1 : Int) ≤ ((l0.length : Int) : Int) := of_decide_eq_true (by first | (with_reducible assumption) | assumption)
      obtain ⟨i013, hi013, _, hsz13, _⟩ := info_parts info42
      have hcut13 := cut_to (P := Try.prog) 22 42 .i64 Try.underlying22 hi013 Ao2 l0.length co2 x3_1 od q13 (rN HO_0)
      have hr13 := Kd.R_take (m := (x3_1 : Int).toNat) HO_0.out (by omega)
      have hy13 : y165.length = (x3_1 : Int).toNat := (by rw [Ny165.out, List.length_take]; omega)
      rw [← Ny165.out] at hr13
      rw [← hy13] at hr13 hcut13
      clear hy13 hi013 hsz13 HO_0
      have HO167 := Aside0.mk hr13
      clear hr13
      replace q13 := eq_true q13
      go_wp2
      go_ret
      exact ⟨_, by first | rfl | (simp [errW_none, errW_some] <;> rfl) | (simp [*, errW_none, errW_some] <;> rfl), rU HO167, bU HB, by repeat (first | (with_reducible first | exact HK.out | apply Kept.alloc | apply Kept.drewN | apply Kept.drew) | exact HK.out)⟩
     ·rw [if_neg c12] at H
      exact absurd H (by simp)
    ·rw [if_neg c11] at H
     exact absurd H (by simp)

end Go.Proofs.Ytldcelgbinenbaa.Px

namespace Go.Proofs.Ytldcelgbinenbaa.Px
open Go.RowKit Go.Proofs.YtldcelgbinenbaaW.PrintWords Go.Proofs.YtldcelgbinenbaaW.PrintLast Go.Proofs.YtldcelgbinenbaaW.PrintMore
attribute [local go_sem] max2_int min2_int max_two min_two max_three min_three max_four min_four   -- for this text's walks alone
set_option linter.unusedVariables false
set_option linter.unusedSimpArgs false

/-! ### cutplaneref01_Of: function 19 -/
def cutplaneref01_Of.f (k : Nat) (a0 : Int) : Option (List Int) := (cutplaneref01_Trim.f k (([(a0) % 4294967296, (a0 / 4294967296) % 4294967296] : List Int))).bind fun t171 => (some t171)
theorem cutplaneref01_Of.mono : ∀ a0 k, LeO (cutplaneref01_Of.f k a0) (cutplaneref01_Of.f (k + 1) a0) := by
 intro a0 k
 unfold cutplaneref01_Of.f
 repeat' (with_reducible first | exact cutplaneref01_Trim.mono _ _ | exact LeO.refl _ | exact LeO.none _ | refine LeO.ite ?_ ?_ | refine LeO.bind ?_ (fun _ => ?_))
set_option maxHeartbeats 8000000 in
set_option maxRecDepth 100000 in
theorem cutplaneref01_Of.calls (k : Nat) (a0 : Int) (r : List Int) (w : World) (h : cutplaneref01_Of.f k a0 = some r) :
  Calls Try.prog 19 #[.int .u64 a0] w fun e w' => ∃ v0_ : Value, e = .returned (v0_) ∧ Kd.R (Kd.int .u32) 42 w' w.heap.size (fun _ => True) v0_ r ∧ Below w.heap.size w w' := by
 have HB := Aside0.mk (Below.refl w.heap.size w)
 have H := h
 unfold cutplaneref01_Of.f at H
 clear h
 obtain ⟨y168, hy168⟩ : ∃ y_ : List Int, y_ = (([(a0) % 4294967296, (a0 / 4294967296) % 4294967296] : List Int)) := ⟨_, rfl⟩
 replace H : ((cutplaneref01_Trim.f k y168).bind fun t171 => (some t171)) = some r := by first | (rw [hy168]; with_reducible exact H) | (have H2_ := (Option.bind_some _ _).symm.trans H; rw [hy168]; with_reducible exact H2_) | (have H2_ := (Option.bind_some _ _).symm.trans H; with_reducible exact H2_) | with_reducible exact H | (rw [hy168]; exact H) | exact H
 have Ny168 := Aside0.mk hy168
 clear hy168
 replace H := oc H
 obtain ⟨t171, A2, H⟩ := H
 obtain rfl := Option.some.inj H
 go_enter Try.func19, Try.ntmps19
 go_wp2_with (first | ((with_reducible refine gate_dst (N := 8) rfl ?_); refine Kd.R_lit (Kd.int .u32) _ 42 ?hg (N := 8) ?hd (xs := ([(a0) % 4294967296, (a0 / 4294967296) % 4294967296] : List Int)) (inner := [.int .u32 ((a0) % 4294967296), .int .u32 ((a0 / 4294967296) % 4294967296)]) (ok := fun _ => True) (okp := fun _ => True) ?hr ?hp (fun _ hk => hk) trivial (Below.refl _ _) (Nat.le_refl _) (by simp) ?_; (case hd => rfl); (case hg => rfl); (case hr => first | (go_simp; done) | (go_simp; rfl)); (case hp => exact (Reps.one (show Kd.M (Kd.int .u32) _ _ _ ((a0) % 4294967296) [.int .u32 ((a0) % 4294967296)] from rfl) (Reps.one (show Kd.M (Kd.int .u32) _ _ _ ((a0 / 4294967296) % 4294967296) [.int .u32 ((a0 / 4294967296) % 4294967296)] from rfl) (Reps.none _ _)))); intro v169 w3 ho4 hb hg_ hnew_; clear hg_ hnew_; (first | rw [← Ny168.out] at ho4 | (simp only [Int.reduceToNat] at ho4; rw [← Ny168.out] at ho4)); have HO170 := rL ho4 HB; replace HB := bS HB hb; clear hb ho4; obtain ⟨Ao5, co5, rfl⟩ := Kd.R_slice HO170.out) | ((with_reducible refine gc 42 rfl ?_); refine gL (some 9) Try.func42 #[.slice Ao5 y168.length co5] ?_; (with_reducible refine (cutplaneref01_Trim.calls k (fun k_ => some k_ = (.slice Ao5 y168.length co5 : Value).ownBlock) (.slice Ao5 y168.length co5) y168 t171 w _ ?side1 ?side2 A2.out).mono ?_); (case side1 => exact bU HB); (case side2 => exact Kd.R_tight rfl HO170.out); rintro e w6 ⟨v172, rfl, ho0, hb, hkp⟩; refine ⟨_, rfl, ?_⟩; have HO173 := Aside0.mk (Kd.R_mono (ok' := fun k_ => True) ho0 (fun k_ hk_ => trivial)); replace HB := Aside0.mk (hb); clear HO170; clear hb hkp ho0))
 go_ret
 exact ⟨_, by first | rfl | (simp [errW_none, errW_some] <;> rfl) | (simp [*, errW_none, errW_some] <;> rfl), rU HO173, bU HB⟩

end Go.Proofs.Ytldcelgbinenbaa.Px

namespace Go.Proofs.Ytldcelgbinenbaa.Px
open Go.RowKit Go.Proofs.YtldcelgbinenbaaW.PrintWords Go.Proofs.YtldcelgbinenbaaW.PrintLast Go.Proofs.YtldcelgbinenbaaW.PrintMore
attribute [local go_sem] max2_int min2_int max_two min_two max_three min_three max_four min_four   -- for this text's walks alone
set_option linter.unusedVariables false
set_option linter.unusedSimpArgs false

/-! ### cutplaneref01_Cmp: function 24 -/
def cutplaneref01_Cmp.l0 : Nat → List Int → List Int → Int → Option (Int)
 | 0, _, _, _ => none
 | k + 1, x0, x1, x5 => if x5 ≥ 0 then (if 0 ≤ x5 then (if x5 < (x0.length : Int) then (if x5 < (x1.length : Int) then (if (rd x0 x5) < (rd x1 x5) then (some (-1)) else (if (rd x0 x5) > (rd x1 x5) then (some 1) else (cutplaneref01_Cmp.l0 k x0 x1 (wrap64 (x5 - 1))))) else (none)) else (none)) else (none)) else (some 0)
def cutplaneref01_Cmp.f (k : Nat) (l0 : List Int) (l1 : List Int) : Option (Int) := if (l0.length : Int) = (l1.length : Int) then (cutplaneref01_Cmp.l0 k l0 l1 (wrap64 ((l0.length : Int) - 1))) else (if (l0.length : Int) < (l1.length : Int) then (some (-1)) else (some 1))
theorem cutplaneref01_Cmp.mono_l : ∀ k, (∀ y0 y1 y2, LeO (cutplaneref01_Cmp.l0 k y0 y1 y2) (cutplaneref01_Cmp.l0 (k + 1) y0 y1 y2))
 | 0 => fun _ _ _ r h => by simp [cutplaneref01_Cmp.l0] at h
 | k + 1 => by
  have ih0 := cutplaneref01_Cmp.mono_l k
  ·intro y0 y1 y2
   unfold cutplaneref01_Cmp.l0
   repeat' (with_reducible first | exact ih0 _ _ _ | exact LeO.refl _ | exact LeO.none _ | refine LeO.ite ?_ ?_ | refine LeO.bind ?_ (fun _ => ?_))
theorem cutplaneref01_Cmp.mono : ∀ a0 a1 k, LeO (cutplaneref01_Cmp.f k a0 a1) (cutplaneref01_Cmp.f (k + 1) a0 a1) := by
 intro a0 a1 k
 have ih0 := cutplaneref01_Cmp.mono_l k
 unfold cutplaneref01_Cmp.f
 repeat' (with_reducible first | exact ih0 _ _ _ | exact LeO.refl _ | exact LeO.none _ | refine LeO.ite ?_ ?_ | refine LeO.bind ?_ (fun _ => ?_))
set_option maxHeartbeats 8000000 in
set_option maxRecDepth 100000 in
theorem cutplaneref01_Cmp.calls (k : Nat) (A0 : Option Addr) (c0 : Nat) (l0 : List Int) (A1 : Option Addr) (c1 : Nat) (l1 : List Int) (r : Int) (w : World) (hr0 : Kd.C (Kd.int .u32) w A0 l0.length l0) (hc0 : l0.length ≤ c0) (hr1 : Kd.C (Kd.int .u32) w A1 l1.length l1) (hc1 : l1.length ≤ c1) (h : cutplaneref01_Cmp.f k l0 l1 = some r) :
  Calls Try.prog 24 #[.slice A0 l0.length c0, .slice A1 l1.length c1] w fun e w' => e = .returned (.int .i64 r) ∧ Drawn0 w w' := by
 have HR0 := Aside0.mk hr0
 have HC0 := Aside0.mk hc0
 clear hr0 hc0
 have HR1 := Aside0.mk hr1
 have HC1 := Aside0.mk hc1
 clear hr1 hc1
 have H := h
 unfold cutplaneref01_Cmp.f at H
 clear h
 by_cases c3 : (l0.length : Int) = (l1.length : Int)
 ·rw [if_pos c3] at H
  have c3b0 : ((l0.length : Int) == (l1.length : Int)) = true := beq_iff_eq.mpr c3
  have c3b1 : ((l0.length : Int) != (l1.length : Int)) = false := bne_eq_false_iff_eq.mpr c3
  have c3b2 : (l0.length == l1.length) = true := by first | simpa using c3 | (simp at c3 ⊢; omega)
  clear c3
  have H' := Aside0.mk H
  clear H
  go_enter Try.func24, Try.ntmps24
  go_wp2
  repeat (go_quiet (fail); try go_wp2)
  go_loopg [5] k (fun kq v5 w' => ∃ (x5_1 : Int), v5 = .int .i64 x5_1 ∧ Aside0 (cutplaneref01_Cmp.l0 kq l0 l1 x5_1 = some r) ∧ Aside0 (kq ≤ k) ∧ Drawn0 w w')
  case atStart => exact ⟨(wrap64 ((l0.length : Int) - 1)), es, H', ⟨Nat.le_refl _⟩, by repeat (first | exact Drawn0.refl _ | apply Drawn0.step)⟩
  case round =>
   clear H'
   try clear c1; try clear c2; try clear p2; try clear c3; try clear c3b0; try clear c3b1; try clear c3b2
   obtain ⟨x5_1, rfl, HA, HK1, ⟨m1, rfl⟩⟩ := hrel
   cases gk with
   | zero => exact absurd HA.out (by simp [cutplaneref01_Cmp.l0])
   | succ k1 =>
    have H := HA.out
    clear HA
    simp only [cutplaneref01_Cmp.l0] at H
    by_cases c4 : x5_1 ≥ 0
    ·rw [if_pos c4] at H
     have c4b0 : decide (0 ≤ x5_1) = true := decide_eq_true c4
     clear c4
     by_cases c5 : 0 ≤ x5_1
     ·rw [if_pos c5] at H
      have c5b0 := decide_eq_true c5
      clear c5
      by_cases c6 : x5_1 < (l0.length : Int)
      ·rw [if_pos c6] at H
       have c6b0 := decide_eq_true c6
       clear c6
       by_cases c7 : x5_1 < (l1.length : Int)
       ·rw [if_pos c7] at H
        have c7b0 := decide_eq_true c7
        clear c7
        by_cases c8 : (rd l0 x5_1) < (rd l1 x5_1)
        ·rw [if_pos c8] at H
         have c8b0 := decide_eq_true c8
         clear c8
         obtain rfl := Option.some.inj H
         have p208 : 0 ≤ (x5_1 : Int) := of_decide_eq_true (by first | (with_reducible assumption) | assumption)
         have q208 : x5_1 < (l0.length : Int) := of_decide_eq_true (by first | (with_reducible assumption) | assumption)
         obtain ⟨ad208, e208, hx208_0⟩ := Kd.at_int HR0.out x5_1 p208 q208
         cases e208
         replace p208 := eq_true p208
         replace q208 := eq_true q208
         have p209 : 0 ≤ (x5_1 : Int) := of_decide_eq_true (by first | (with_reducible assumption) | assumption)
         have q209 : x5_1 < (l1.length : Int) := of_decide_eq_true (by first | (with_reducible assumption) | assumption)
         obtain ⟨ad209, e209, hx209_0⟩ := Kd.at_int HR1.out x5_1 p209 q209
         cases e209
         replace p209 := eq_true p209
         replace q209 := eq_true q209
         go_wp2
         repeat (go_quiet (fail); try go_wp2)
         go_ret
         exact ⟨by first | rfl | (simp; done) | (simp [*]; done), by repeat (first | exact Drawn0.refl _ | apply Drawn0.step)⟩
        ·rw [if_neg c8] at H
         have c8b0 := decide_eq_false c8
         clear c8
         by_cases c9 : (rd l0 x5_1) > (rd l1 x5_1)
         ·rw [if_pos c9] at H
          have c9b0 : decide ((rd l1 x5_1) < (rd l0 x5_1)) = true := decide_eq_true c9
          clear c9
          obtain rfl := Option.some.inj H
          have p208 : 0 ≤ (x5_1 : Int) := of_decide_eq_true (by first | (with_reducible assumption) | assumption)
          have q208 : x5_1 < (l0.length : Int) := of_decide_eq_true (by first | (with_reducible assumption) | assumption)
          obtain ⟨ad208, e208, hx208_0⟩ := Kd.at_int HR0.out x5_1 p208 q208
          cases e208
          replace p208 := eq_true p208
          replace q208 := eq_true q208
          have p209 : 0 ≤ (x5_1 : Int) := of_decide_eq_true (by first | (with_reducible assumption) | assumption)
          have q209 : x5_1 < (l1.length : Int) := of_decide_eq_true (by first | (with_reducible assumption) | assumption)
          obtain ⟨ad209, e209, hx209_0⟩ := Kd.at_int HR1.out x5_1 p209 q209
          cases e209
          replace p209 := eq_true p209
          replace q209 := eq_true q209
          have p210 : 0 ≤ (x5_1 : Int) := of_decide_eq_true (by first | (with_reducible assumption) | assumption)
          have q210 : x5_1 < (l0.length : Int) := of_decide_eq_true (by first | (with_reducible assumption) | assumption)
          obtain ⟨ad210, e210, hx210_0⟩ := Kd.at_int HR0.out x5_1 p210 q210
          obtain rfl : ad208 = ad210 := (by injection e210)
          replace p210 := eq_true p210
          replace q210 := eq_true q210
          have p211 : 0 ≤ (x5_1 : Int) := of_decide_eq_true (by first | (with_reducible assumption) | assumption)
          have q211 : x5_1 < (l1.length : Int) := of_decide_eq_true (by first | (with_reducible assumption) | assumption)
          obtain ⟨ad211, e211, hx211_0⟩ := Kd.at_int HR1.out x5_1 p211 q211
          obtain rfl : ad209 = ad211 := (by injection e211)
          replace p211 := eq_true p211
          replace q211 := eq_true q211
          go_wp2
          repeat (go_quiet (fail); try go_wp2)
          go_ret
          exact ⟨by first | rfl | (simp; done) | (simp [*]; done), by repeat (first | exact Drawn0.refl _ | apply Drawn0.step)⟩
         ·rw [if_neg c9] at H
          have c9b0 : decide ((rd l1 x5_1) < (rd l0 x5_1)) = false := decide_eq_false c9
          clear c9
          have H' := Aside0.mk H
          clear H
          have p208 : 0 ≤ (x5_1 : Int) := of_decide_eq_true (by first | (with_reducible assumption) | assumption)
          have q208 : x5_1 < (l0.length : Int) := of_decide_eq_true (by first | (with_reducible assumption) | assumption)
          obtain ⟨ad208, e208, hx208_0⟩ := Kd.at_int HR0.out x5_1 p208 q208
          cases e208
          replace p208 := eq_true p208
          replace q208 := eq_true q208
          have p209 : 0 ≤ (x5_1 : Int) := of_decide_eq_true (by first | (with_reducible assumption) | assumption)
          have q209 : x5_1 < (l1.length : Int) := of_decide_eq_true (by first | (with_reducible assumption) | assumption)
          obtain ⟨ad209, e209, hx209_0⟩ := Kd.at_int HR1.out x5_1 p209 q209
          cases e209
          replace p209 := eq_true p209
          replace q209 := eq_true q209
          have p210 : 0 ≤ (x5_1 : Int) := of_decide_eq_true (by first | (with_reducible assumption) | assumption)
          have q210 : x5_1 < (l0.length : Int) := of_decide_eq_true (by first | (with_reducible assumption) | assumption)
          obtain ⟨ad210, e210, hx210_0⟩ := Kd.at_int HR0.out x5_1 p210 q210
          obtain rfl : ad208 = ad210 := (by injection e210)
          replace p210 := eq_true p210
          replace q210 := eq_true q210
          have p211 : 0 ≤ (x5_1 : Int) := of_decide_eq_true (by first | (with_reducible assumption) | assumption)
          have q211 : x5_1 < (l1.length : Int) := of_decide_eq_true (by first | (with_reducible assumption) | assumption)
          obtain ⟨ad211, e211, hx211_0⟩ := Kd.at_int HR1.out x5_1 p211 q211
          obtain rfl : ad209 = ad211 := (by injection e211)
          replace p211 := eq_true p211
          replace q211 := eq_true q211
          go_wp2
          repeat (go_quiet (fail); try go_wp2)
          go_roundg k1
          case measure => have := HK1.out; omega
          case rel => exact ⟨(wrap64 (x5_1 - 1)), es, H', ⟨by have := HK1.out; omega⟩, by repeat (first | exact Drawn0.refl _ | apply Drawn0.step)⟩
       ·rw [if_neg c7] at H
        exact absurd H (by simp)
      ·rw [if_neg c6] at H
       exact absurd H (by simp)
     ·rw [if_neg c5] at H
      exact absurd H (by simp)
    ·rw [if_neg c4] at H
     have c4b0 : decide (0 ≤ x5_1) = false := decide_eq_false c4
     clear c4
     obtain rfl := Option.some.inj H
     go_wp2
     repeat (go_quiet (fail); try go_wp2)
     go_ret
     exact ⟨by first | rfl | (simp; done) | (simp [*]; done), by repeat (first | exact Drawn0.refl _ | apply Drawn0.step)⟩
 ·rw [if_neg c3] at H
  have c3b0 : ((l0.length : Int) == (l1.length : Int)) = false := beq_eq_false_iff_ne.mpr c3
  have c3b1 : ((l0.length : Int) != (l1.length : Int)) = true := bne_iff_ne.mpr c3
  have c3b2 : (l0.length == l1.length) = false := by first | simpa using c3 | (simp at c3 ⊢; omega)
  by_cases c10 : (l0.length : Int) < (l1.length : Int)
  ·rw [if_pos c10] at H
   have c10b0 := decide_eq_true c10
   have c10b1 : decide (l0.length < l1.length) = true := decide_eq_true (Int.ofNat_lt.mp c10)
   clear c10
   obtain rfl := Option.some.inj H
   go_enter Try.func24, Try.ntmps24
   go_wp2
   repeat (go_quiet (fail); try go_wp2)
   go_ret
   exact ⟨by first | rfl | (simp; done) | (simp [*]; done), by repeat (first | exact Drawn0.refl _ | apply Drawn0.step)⟩
  ·rw [if_neg c10] at H
   have c10b0 := decide_eq_false c10
   have c10b1 : decide (l0.length < l1.length) = false := decide_eq_false (fun h => c10 (Int.ofNat_lt.mpr h))
   clear c10
   obtain rfl := Option.some.inj H
   go_enter Try.func24, Try.ntmps24
   go_wp2
   repeat (go_quiet (fail); try go_wp2)
   go_ret
   exact ⟨by first | rfl | (simp; done) | (simp [*]; done), by repeat (first | exact Drawn0.refl _ | apply Drawn0.step)⟩

end Go.Proofs.Ytldcelgbinenbaa.Px
