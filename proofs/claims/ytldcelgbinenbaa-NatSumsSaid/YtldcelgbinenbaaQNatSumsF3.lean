import Derived.Test.YtldcelgbinenbaaQNatSumsF2
namespace Go.Proofs.Ytldcelgbinenbaa.Px
open Go.RowKit Go.Proofs.YtldcelgbinenbaaW.PrintWords Go.Proofs.YtldcelgbinenbaaW.PrintLast Go.Proofs.YtldcelgbinenbaaW.PrintMore
attribute [local go_sem] max2_int min2_int max_two min_two max_three min_three max_four min_four   -- for this text's walks alone
set_option linter.unusedVariables false
set_option linter.unusedSimpArgs false

/-! ### cutplanelaw01_NatSums: function 3 -/
mutual
def cutplanelaw01_NatSums.j0 : Nat → List Int → List Int → Int → Bool → Option (Bool)
  | 0, _, _, _, _ => none
  | k + 1, x0, x1, x2, x25 => if x25 = true then ((cutplanelaw01_known.f k).bind fun t254 => (some t254)) else ((cutplanelaw01_lent.f x0).bind fun t255 => ((cutplanelaw01_lent.f x1).bind fun t258 => ((nat_May.f t255).bind fun t261 => ((cutplaneref01_May.f x0).bind fun t262 => (if (t261 != t262) = true then (cutplanelaw01_NatSums.j1 k x0 x1 t255 t258 true) else ((nat_Of.f k x2).bind fun t263 => ((cutplaneref01_Of.f k x2).bind fun t266 => ((cutplaneref01_Same.f k t263 t266).bind fun t269 => (cutplanelaw01_NatSums.j1 k x0 x1 t255 t258 (!t269))))))))))
def cutplanelaw01_NatSums.j1 : Nat → List Int → List Int → List Int → List Int → Bool → Option (Bool)
  | 0, _, _, _, _, _ => none
  | k + 1, x0, x1, x7, x8, x43 => if x43 = true then (some false) else ((nat_Num.f k x7).bind fun bt270 => ((cutplaneref01_May.f x0).bind fun t272 => (if t272 = true then (cutplanelaw01_NatSums.j2 k x0 x1 x7 x8 bt270.1 bt270.2 (decide ((x0.length : Int) ≤ 2))) else (cutplanelaw01_NatSums.j2 k x0 x1 x7 x8 bt270.1 bt270.2 false))))
def cutplanelaw01_NatSums.j2 : Nat → List Int → List Int → List Int → List Int → Int → Bool → Bool → Option (Bool)
  | 0, _, _, _, _, _, _, _ => none
  | k + 1, x0, x1, x7, x8, x9, x10, x11 => if (x10 != x11) = true then (cutplanelaw01_NatSums.j3 k x0 x1 x7 x8 true) else (if x11 = true then ((cutplaneref01_Of.f k x9).bind fun t273 => ((cutplaneref01_Same.f k t273 x0).bind fun t276 => (if t276 = true then (cutplanelaw01_NatSums.j3 k x0 x1 x7 x8 false) else (cutplanelaw01_NatSums.j3 k x0 x1 x7 x8 true)))) else (cutplanelaw01_NatSums.j3 k x0 x1 x7 x8 (x9 != 0)))
def cutplanelaw01_NatSums.j3 : Nat → List Int → List Int → List Int → List Int → Bool → Option (Bool)
  | 0, _, _, _, _, _ => none
  | k + 1, x0, x1, x7, x8, x76 => if x76 = true then (some false) else ((nat_Cmp.f k x7 x8).bind fun bt277 => ((nat_Add.f k x7 x8).bind fun bt279 => ((nat_Sub.f k x7 x8).bind fun bt283 => ((cutplaneref01_Same.f k x7 x0).bind fun t287 => (if t287 = true then ((cutplaneref01_Same.f k x8 x1).bind fun t288 => (cutplanelaw01_NatSums.j4 k x0 x1 x7 x8 bt277.1 bt277.2 bt279.1 bt279.2 bt283.1 bt283.2 (!t288))) else (cutplanelaw01_NatSums.j4 k x0 x1 x7 x8 bt277.1 bt277.2 bt279.1 bt279.2 bt283.1 bt283.2 true))))))
def cutplanelaw01_NatSums.j4 : Nat → List Int → List Int → List Int → List Int → Int → Int → List Int → Int → List Int → Int → Bool → Option (Bool)
  | 0, _, _, _, _, _, _, _, _, _, _, _ => none
  | k + 1, x0, x1, x7, x8, x12, x13, x14, x15, x16, x17, x104 => if x104 = true then (some false) else ((cutplaneref01_May.f x0).bind fun t289 => (if t289 = true then ((cutplaneref01_May.f x1).bind fun t290 => (cutplanelaw01_NatSums.j5 k x0 x1 x7 x8 x12 x13 x14 x15 x16 x17 (!t290))) else (cutplanelaw01_NatSums.j5 k x0 x1 x7 x8 x12 x13 x14 x15 x16 x17 true)))
def cutplanelaw01_NatSums.j5 : Nat → List Int → List Int → List Int → List Int → Int → Int → List Int → Int → List Int → Int → Bool → Option (Bool)
  | 0, _, _, _, _, _, _, _, _, _, _, _ => none
  | k + 1, x0, x1, x7, x8, x12, x13, x14, x15, x16, x17, x112 => if x112 = true then (if x12 = 0 then (if x13 = 2 then (if (x14.length : Int) = 0 then (if x15 = 2 then (if (x16.length : Int) = 0 then (if x17 = 2 then ((cutplanelaw01_known.f k).bind fun t291 => (some t291)) else (some false)) else (some false)) else (some false)) else (some false)) else (some false)) else (some false)) else ((cutplaneref01_Cmp.f k x0 x1).bind fun t292 => (if x12 = t292 then (cutplanelaw01_NatSums.j6 k x0 x1 x7 x8 x14 x15 x16 x17 (x13 != 0)) else (cutplanelaw01_NatSums.j6 k x0 x1 x7 x8 x14 x15 x16 x17 true)))
def cutplanelaw01_NatSums.j6 : Nat → List Int → List Int → List Int → List Int → List Int → Int → List Int → Int → Bool → Option (Bool)
  | 0, _, _, _, _, _, _, _, _, _ => none
  | k + 1, x0, x1, x7, x8, x14, x15, x16, x17, x148 => if x148 = true then (some false) else ((cutplaneref01_Add.f k x0 x1).bind fun t293 => (if (t293.length : Int) > 4096 then (if (x14.length : Int) = 0 then (if x15 = 3 then (cutplanelaw01_NatSums.j7 k x0 x1 x7 x8 x14 x16 x17) else (some false)) else (some false)) else ((cutplaneref01_Same.f k x14 t293).bind fun t296 => (if t296 = true then (if x15 = 0 then (cutplanelaw01_NatSums.j7 k x0 x1 x7 x8 x14 x16 x17) else (some false)) else (some false)))))
def cutplanelaw01_NatSums.j7 : Nat → List Int → List Int → List Int → List Int → List Int → List Int → Int → Option (Bool)
  | 0, _, _, _, _, _, _, _ => none
  | k + 1, x0, x1, x7, x8, x14, x16, x17 => (cutplaneref01_Cmp.f k x0 x1).bind fun t297 => (if t297 < 0 then (if (x16.length : Int) = 0 then (if x17 = 10 then ((cutplanelaw01_known.f k).bind fun t298 => (some t298)) else (some false)) else (some false)) else ((cutplaneref01_Sub.f k x0 x1).bind fun t299 => ((cutplaneref01_Same.f k x16 t299).bind fun t302 => (if t302 = true then (cutplanelaw01_NatSums.j8 k x0 x1 x7 x8 x14 x16 (x17 == 0)) else (cutplanelaw01_NatSums.j8 k x0 x1 x7 x8 x14 x16 false)))))
def cutplanelaw01_NatSums.j8 : Nat → List Int → List Int → List Int → List Int → List Int → List Int → Bool → Option (Bool)
  | 0, _, _, _, _, _, _, _ => none
  | k + 1, x0, x1, x7, x8, x14, x16, x19 => (cutplanelaw01_marked.f k x14).bind fun t303 => ((cutplanelaw01_marked.f k x16).bind fun t304 => (if x19 = true then ((cutplaneref01_Same.f k x7 x0).bind fun t305 => (if t305 = true then ((cutplaneref01_Same.f k x8 x1).bind fun t306 => (if t306 = true then ((cutplanelaw01_known.f k).bind fun t307 => (some t307)) else (some false))) else (some false))) else (some false)))
end
def cutplanelaw01_NatSums.f (k : Nat) (l0 : List Int) (l1 : List Int) (a2 : Int) : Option (Bool) := (cutplanelaw01_long.f l0 4100).bind fun t252 => (if t252 = true then (cutplanelaw01_NatSums.j0 k l0 l1 a2 true) else ((cutplanelaw01_long.f l1 4100).bind fun t253 => (cutplanelaw01_NatSums.j0 k l0 l1 a2 t253)))
theorem cutplanelaw01_NatSums.mono_l : ∀ k, (∀ y0 y1 y2 y3, LeO (cutplanelaw01_NatSums.j0 k y0 y1 y2 y3) (cutplanelaw01_NatSums.j0 (k + 1) y0 y1 y2 y3)) ∧ (∀ y0 y1 y2 y3 y4, LeO (cutplanelaw01_NatSums.j1 k y0 y1 y2 y3 y4) (cutplanelaw01_NatSums.j1 (k + 1) y0 y1 y2 y3 y4)) ∧ (∀ y0 y1 y2 y3 y4 y5 y6, LeO (cutplanelaw01_NatSums.j2 k y0 y1 y2 y3 y4 y5 y6) (cutplanelaw01_NatSums.j2 (k + 1) y0 y1 y2 y3 y4 y5 y6)) ∧ (∀ y0 y1 y2 y3 y4, LeO (cutplanelaw01_NatSums.j3 k y0 y1 y2 y3 y4) (cutplanelaw01_NatSums.j3 (k + 1) y0 y1 y2 y3 y4)) ∧ (∀ y0 y1 y2 y3 y4 y5 y6 y7 y8 y9 y10, LeO (cutplanelaw01_NatSums.j4 k y0 y1 y2 y3 y4 y5 y6 y7 y8 y9 y10) (cutplanelaw01_NatSums.j4 (k + 1) y0 y1 y2 y3 y4 y5 y6 y7 y8 y9 y10)) ∧ (∀ y0 y1 y2 y3 y4 y5 y6 y7 y8 y9 y10, LeO (cutplanelaw01_NatSums.j5 k y0 y1 y2 y3 y4 y5 y6 y7 y8 y9 y10) (cutplanelaw01_NatSums.j5 (k + 1) y0 y1 y2 y3 y4 y5 y6 y7 y8 y9 y10)) ∧ (∀ y0 y1 y2 y3 y4 y5 y6 y7 y8, LeO (cutplanelaw01_NatSums.j6 k y0 y1 y2 y3 y4 y5 y6 y7 y8) (cutplanelaw01_NatSums.j6 (k + 1) y0 y1 y2 y3 y4 y5 y6 y7 y8)) ∧ (∀ y0 y1 y2 y3 y4 y5 y6, LeO (cutplanelaw01_NatSums.j7 k y0 y1 y2 y3 y4 y5 y6) (cutplanelaw01_NatSums.j7 (k + 1) y0 y1 y2 y3 y4 y5 y6)) ∧ (∀ y0 y1 y2 y3 y4 y5 y6, LeO (cutplanelaw01_NatSums.j8 k y0 y1 y2 y3 y4 y5 y6) (cutplanelaw01_NatSums.j8 (k + 1) y0 y1 y2 y3 y4 y5 y6))
  | 0 => ⟨fun _ _ _ _ r h => by simp [cutplanelaw01_NatSums.j0] at h, fun _ _ _ _ _ r h => by simp [cutplanelaw01_NatSums.j1] at h, fun _ _ _ _ _ _ _ r h => by simp [cutplanelaw01_NatSums.j2] at h, fun _ _ _ _ _ r h => by simp [cutplanelaw01_NatSums.j3] at h, fun _ _ _ _ _ _ _ _ _ _ _ r h => by simp [cutplanelaw01_NatSums.j4] at h, fun _ _ _ _ _ _ _ _ _ _ _ r h => by simp [cutplanelaw01_NatSums.j5] at h, fun _ _ _ _ _ _ _ _ _ r h => by simp [cutplanelaw01_NatSums.j6] at h, fun _ _ _ _ _ _ _ r h => by simp [cutplanelaw01_NatSums.j7] at h, fun _ _ _ _ _ _ _ r h => by simp [cutplanelaw01_NatSums.j8] at h⟩
  | k + 1 => by
    obtain ⟨ih0, ih1, ih2, ih3, ih4, ih5, ih6, ih7, ih8⟩ := cutplanelaw01_NatSums.mono_l k
    refine ⟨?_, ?_, ?_, ?_, ?_, ?_, ?_, ?_, ?_⟩
    · intro y0 y1 y2 y3
      unfold cutplanelaw01_NatSums.j0
      repeat' first
      | (with_reducible exact ih0 _ _ _ _)
      | (with_reducible exact ih1 _ _ _ _ _)
      | (with_reducible exact ih2 _ _ _ _ _ _ _)
      | (with_reducible exact ih3 _ _ _ _ _)
      | (with_reducible exact ih4 _ _ _ _ _ _ _ _ _ _ _)
      | (with_reducible exact ih5 _ _ _ _ _ _ _ _ _ _ _)
      | (with_reducible exact ih6 _ _ _ _ _ _ _ _ _)
      | (with_reducible exact ih7 _ _ _ _ _ _ _)
      | (with_reducible exact ih8 _ _ _ _ _ _ _)
      | (with_reducible exact cutplanelaw01_known.mono _)
      | (with_reducible exact cutplanelaw01_marked.mono _ _)
      | (with_reducible exact cutplaneref01_Add.mono _ _ _)
      | (with_reducible exact cutplaneref01_Cmp.mono _ _ _)
      | (with_reducible exact cutplaneref01_Of.mono _ _)
      | (with_reducible exact cutplaneref01_Same.mono _ _ _)
      | (with_reducible exact cutplaneref01_Sub.mono _ _ _)
      | (with_reducible exact nat_Add.mono _ _ _)
      | (with_reducible exact nat_Cmp.mono _ _ _)
      | (with_reducible exact nat_Num.mono _ _)
      | (with_reducible exact nat_Of.mono _ _)
      | (with_reducible exact nat_Sub.mono _ _ _)
      | (with_reducible exact LeO.refl _)
      | (with_reducible exact LeO.none _)
      | (with_reducible refine LeO.ite ?_ ?_)
      | (with_reducible refine LeO.bind ?_ (fun _ => ?_))
      | exact ih0 _ _ _ _
      | exact ih1 _ _ _ _ _
      | exact ih2 _ _ _ _ _ _ _
      | exact ih3 _ _ _ _ _
      | exact ih4 _ _ _ _ _ _ _ _ _ _ _
      | exact ih5 _ _ _ _ _ _ _ _ _ _ _
      | exact ih6 _ _ _ _ _ _ _ _ _
      | exact ih7 _ _ _ _ _ _ _
      | exact ih8 _ _ _ _ _ _ _
      | exact cutplanelaw01_known.mono _
      | exact cutplanelaw01_marked.mono _ _
      | exact cutplaneref01_Add.mono _ _ _
      | exact cutplaneref01_Cmp.mono _ _ _
      | exact cutplaneref01_Of.mono _ _
      | exact cutplaneref01_Same.mono _ _ _
      | exact cutplaneref01_Sub.mono _ _ _
      | exact nat_Add.mono _ _ _
      | exact nat_Cmp.mono _ _ _
      | exact nat_Num.mono _ _
      | exact nat_Of.mono _ _
      | exact nat_Sub.mono _ _ _
      | exact LeO.none _
      | refine LeO.ite ?_ ?_
      | refine LeO.bind ?_ (fun _ => ?_)
    · intro y0 y1 y2 y3 y4
      unfold cutplanelaw01_NatSums.j1
      repeat' first
      | (with_reducible exact ih0 _ _ _ _)
      | (with_reducible exact ih1 _ _ _ _ _)
      | (with_reducible exact ih2 _ _ _ _ _ _ _)
      | (with_reducible exact ih3 _ _ _ _ _)
      | (with_reducible exact ih4 _ _ _ _ _ _ _ _ _ _ _)
      | (with_reducible exact ih5 _ _ _ _ _ _ _ _ _ _ _)
      | (with_reducible exact ih6 _ _ _ _ _ _ _ _ _)
      | (with_reducible exact ih7 _ _ _ _ _ _ _)
      | (with_reducible exact ih8 _ _ _ _ _ _ _)
      | (with_reducible exact cutplanelaw01_known.mono _)
      | (with_reducible exact cutplanelaw01_marked.mono _ _)
      | (with_reducible exact cutplaneref01_Add.mono _ _ _)
      | (with_reducible exact cutplaneref01_Cmp.mono _ _ _)
      | (with_reducible exact cutplaneref01_Of.mono _ _)
      | (with_reducible exact cutplaneref01_Same.mono _ _ _)
      | (with_reducible exact cutplaneref01_Sub.mono _ _ _)
      | (with_reducible exact nat_Add.mono _ _ _)
      | (with_reducible exact nat_Cmp.mono _ _ _)
      | (with_reducible exact nat_Num.mono _ _)
      | (with_reducible exact nat_Of.mono _ _)
      | (with_reducible exact nat_Sub.mono _ _ _)
      | (with_reducible exact LeO.refl _)
      | (with_reducible exact LeO.none _)
      | (with_reducible refine LeO.ite ?_ ?_)
      | (with_reducible refine LeO.bind ?_ (fun _ => ?_))
      | exact ih0 _ _ _ _
      | exact ih1 _ _ _ _ _
      | exact ih2 _ _ _ _ _ _ _
      | exact ih3 _ _ _ _ _
      | exact ih4 _ _ _ _ _ _ _ _ _ _ _
      | exact ih5 _ _ _ _ _ _ _ _ _ _ _
      | exact ih6 _ _ _ _ _ _ _ _ _
      | exact ih7 _ _ _ _ _ _ _
      | exact ih8 _ _ _ _ _ _ _
      | exact cutplanelaw01_known.mono _
      | exact cutplanelaw01_marked.mono _ _
      | exact cutplaneref01_Add.mono _ _ _
      | exact cutplaneref01_Cmp.mono _ _ _
      | exact cutplaneref01_Of.mono _ _
      | exact cutplaneref01_Same.mono _ _ _
      | exact cutplaneref01_Sub.mono _ _ _
      | exact nat_Add.mono _ _ _
      | exact nat_Cmp.mono _ _ _
      | exact nat_Num.mono _ _
      | exact nat_Of.mono _ _
      | exact nat_Sub.mono _ _ _
      | exact LeO.none _
      | refine LeO.ite ?_ ?_
      | refine LeO.bind ?_ (fun _ => ?_)
    · intro y0 y1 y2 y3 y4 y5 y6
      unfold cutplanelaw01_NatSums.j2
      repeat' first
      | (with_reducible exact ih0 _ _ _ _)
      | (with_reducible exact ih1 _ _ _ _ _)
      | (with_reducible exact ih2 _ _ _ _ _ _ _)
      | (with_reducible exact ih3 _ _ _ _ _)
      | (with_reducible exact ih4 _ _ _ _ _ _ _ _ _ _ _)
      | (with_reducible exact ih5 _ _ _ _ _ _ _ _ _ _ _)
      | (with_reducible exact ih6 _ _ _ _ _ _ _ _ _)
      | (with_reducible exact ih7 _ _ _ _ _ _ _)
      | (with_reducible exact ih8 _ _ _ _ _ _ _)
      | (with_reducible exact cutplanelaw01_known.mono _)
      | (with_reducible exact cutplanelaw01_marked.mono _ _)
      | (with_reducible exact cutplaneref01_Add.mono _ _ _)
      | (with_reducible exact cutplaneref01_Cmp.mono _ _ _)
      | (with_reducible exact cutplaneref01_Of.mono _ _)
      | (with_reducible exact cutplaneref01_Same.mono _ _ _)
      | (with_reducible exact cutplaneref01_Sub.mono _ _ _)
      | (with_reducible exact nat_Add.mono _ _ _)
      | (with_reducible exact nat_Cmp.mono _ _ _)
      | (with_reducible exact nat_Num.mono _ _)
      | (with_reducible exact nat_Of.mono _ _)
      | (with_reducible exact nat_Sub.mono _ _ _)
      | (with_reducible exact LeO.refl _)
      | (with_reducible exact LeO.none _)
      | (with_reducible refine LeO.ite ?_ ?_)
      | (with_reducible refine LeO.bind ?_ (fun _ => ?_))
      | exact ih0 _ _ _ _
      | exact ih1 _ _ _ _ _
      | exact ih2 _ _ _ _ _ _ _
      | exact ih3 _ _ _ _ _
      | exact ih4 _ _ _ _ _ _ _ _ _ _ _
      | exact ih5 _ _ _ _ _ _ _ _ _ _ _
      | exact ih6 _ _ _ _ _ _ _ _ _
      | exact ih7 _ _ _ _ _ _ _
      | exact ih8 _ _ _ _ _ _ _
      | exact cutplanelaw01_known.mono _
      | exact cutplanelaw01_marked.mono _ _
      | exact cutplaneref01_Add.mono _ _ _
      | exact cutplaneref01_Cmp.mono _ _ _
      | exact cutplaneref01_Of.mono _ _
      | exact cutplaneref01_Same.mono _ _ _
      | exact cutplaneref01_Sub.mono _ _ _
      | exact nat_Add.mono _ _ _
      | exact nat_Cmp.mono _ _ _
      | exact nat_Num.mono _ _
      | exact nat_Of.mono _ _
      | exact nat_Sub.mono _ _ _
      | exact LeO.none _
      | refine LeO.ite ?_ ?_
      | refine LeO.bind ?_ (fun _ => ?_)
    · intro y0 y1 y2 y3 y4
      unfold cutplanelaw01_NatSums.j3
      repeat' first
      | (with_reducible exact ih0 _ _ _ _)
      | (with_reducible exact ih1 _ _ _ _ _)
      | (with_reducible exact ih2 _ _ _ _ _ _ _)
      | (with_reducible exact ih3 _ _ _ _ _)
      | (with_reducible exact ih4 _ _ _ _ _ _ _ _ _ _ _)
      | (with_reducible exact ih5 _ _ _ _ _ _ _ _ _ _ _)
      | (with_reducible exact ih6 _ _ _ _ _ _ _ _ _)
      | (with_reducible exact ih7 _ _ _ _ _ _ _)
      | (with_reducible exact ih8 _ _ _ _ _ _ _)
      | (with_reducible exact cutplanelaw01_known.mono _)
      | (with_reducible exact cutplanelaw01_marked.mono _ _)
      | (with_reducible exact cutplaneref01_Add.mono _ _ _)
      | (with_reducible exact cutplaneref01_Cmp.mono _ _ _)
      | (with_reducible exact cutplaneref01_Of.mono _ _)
      | (with_reducible exact cutplaneref01_Same.mono _ _ _)
      | (with_reducible exact cutplaneref01_Sub.mono _ _ _)
      | (with_reducible exact nat_Add.mono _ _ _)
      | (with_reducible exact nat_Cmp.mono _ _ _)
      | (with_reducible exact nat_Num.mono _ _)
      | (with_reducible exact nat_Of.mono _ _)
      | (with_reducible exact nat_Sub.mono _ _ _)
      | (with_reducible exact LeO.refl _)
      | (with_reducible exact LeO.none _)
      | (with_reducible refine LeO.ite ?_ ?_)
      | (with_reducible refine LeO.bind ?_ (fun _ => ?_))
      | exact ih0 _ _ _ _
      | exact ih1 _ _ _ _ _
      | exact ih2 _ _ _ _ _ _ _
      | exact ih3 _ _ _ _ _
      | exact ih4 _ _ _ _ _ _ _ _ _ _ _
      | exact ih5 _ _ _ _ _ _ _ _ _ _ _
      | exact ih6 _ _ _ _ _ _ _ _ _
      | exact ih7 _ _ _ _ _ _ _
      | exact ih8 _ _ _ _ _ _ _
      | exact cutplanelaw01_known.mono _
      | exact cutplanelaw01_marked.mono _ _
      | exact cutplaneref01_Add.mono _ _ _
      | exact cutplaneref01_Cmp.mono _ _ _
      | exact cutplaneref01_Of.mono _ _
      | exact cutplaneref01_Same.mono _ _ _
      | exact cutplaneref01_Sub.mono _ _ _
      | exact nat_Add.mono _ _ _
      | exact nat_Cmp.mono _ _ _
      | exact nat_Num.mono _ _
      | exact nat_Of.mono _ _
      | exact nat_Sub.mono _ _ _
      | exact LeO.none _
      | refine LeO.ite ?_ ?_
      | refine LeO.bind ?_ (fun _ => ?_)
    · intro y0 y1 y2 y3 y4 y5 y6 y7 y8 y9 y10
      unfold cutplanelaw01_NatSums.j4
      repeat' first
      | (with_reducible exact ih0 _ _ _ _)
      | (with_reducible exact ih1 _ _ _ _ _)
      | (with_reducible exact ih2 _ _ _ _ _ _ _)
      | (with_reducible exact ih3 _ _ _ _ _)
      | (with_reducible exact ih4 _ _ _ _ _ _ _ _ _ _ _)
      | (with_reducible exact ih5 _ _ _ _ _ _ _ _ _ _ _)
      | (with_reducible exact ih6 _ _ _ _ _ _ _ _ _)
      | (with_reducible exact ih7 _ _ _ _ _ _ _)
      | (with_reducible exact ih8 _ _ _ _ _ _ _)
      | (with_reducible exact cutplanelaw01_known.mono _)
      | (with_reducible exact cutplanelaw01_marked.mono _ _)
      | (with_reducible exact cutplaneref01_Add.mono _ _ _)
      | (with_reducible exact cutplaneref01_Cmp.mono _ _ _)
      | (with_reducible exact cutplaneref01_Of.mono _ _)
      | (with_reducible exact cutplaneref01_Same.mono _ _ _)
      | (with_reducible exact cutplaneref01_Sub.mono _ _ _)
      | (with_reducible exact nat_Add.mono _ _ _)
      | (with_reducible exact nat_Cmp.mono _ _ _)
      | (with_reducible exact nat_Num.mono _ _)
      | (with_reducible exact nat_Of.mono _ _)
      | (with_reducible exact nat_Sub.mono _ _ _)
      | (with_reducible exact LeO.refl _)
      | (with_reducible exact LeO.none _)
      | (with_reducible refine LeO.ite ?_ ?_)
      | (with_reducible refine LeO.bind ?_ (fun _ => ?_))
      | exact ih0 _ _ _ _
      | exact ih1 _ _ _ _ _
      | exact ih2 _ _ _ _ _ _ _
      | exact ih3 _ _ _ _ _
      | exact ih4 _ _ _ _ _ _ _ _ _ _ _
      | exact ih5 _ _ _ _ _ _ _ _ _ _ _
      | exact ih6 _ _ _ _ _ _ _ _ _
      | exact ih7 _ _ _ _ _ _ _
      | exact ih8 _ _ _ _ _ _ _
      | exact cutplanelaw01_known.mono _
      | exact cutplanelaw01_marked.mono _ _
      | exact cutplaneref01_Add.mono _ _ _
      | exact cutplaneref01_Cmp.mono _ _ _
      | exact cutplaneref01_Of.mono _ _
      | exact cutplaneref01_Same.mono _ _ _
      | exact cutplaneref01_Sub.mono _ _ _
      | exact nat_Add.mono _ _ _
      | exact nat_Cmp.mono _ _ _
      | exact nat_Num.mono _ _
      | exact nat_Of.mono _ _
      | exact nat_Sub.mono _ _ _
      | exact LeO.none _
      | refine LeO.ite ?_ ?_
      | refine LeO.bind ?_ (fun _ => ?_)
    · intro y0 y1 y2 y3 y4 y5 y6 y7 y8 y9 y10
      unfold cutplanelaw01_NatSums.j5
      repeat' first
      | (with_reducible exact ih0 _ _ _ _)
      | (with_reducible exact ih1 _ _ _ _ _)
      | (with_reducible exact ih2 _ _ _ _ _ _ _)
      | (with_reducible exact ih3 _ _ _ _ _)
      | (with_reducible exact ih4 _ _ _ _ _ _ _ _ _ _ _)
      | (with_reducible exact ih5 _ _ _ _ _ _ _ _ _ _ _)
      | (with_reducible exact ih6 _ _ _ _ _ _ _ _ _)
      | (with_reducible exact ih7 _ _ _ _ _ _ _)
      | (with_reducible exact ih8 _ _ _ _ _ _ _)
      | (with_reducible exact cutplanelaw01_known.mono _)
      | (with_reducible exact cutplanelaw01_marked.mono _ _)
      | (with_reducible exact cutplaneref01_Add.mono _ _ _)
      | (with_reducible exact cutplaneref01_Cmp.mono _ _ _)
      | (with_reducible exact cutplaneref01_Of.mono _ _)
      | (with_reducible exact cutplaneref01_Same.mono _ _ _)
      | (with_reducible exact cutplaneref01_Sub.mono _ _ _)
      | (with_reducible exact nat_Add.mono _ _ _)
      | (with_reducible exact nat_Cmp.mono _ _ _)
      | (with_reducible exact nat_Num.mono _ _)
      | (with_reducible exact nat_Of.mono _ _)
      | (with_reducible exact nat_Sub.mono _ _ _)
      | (with_reducible exact LeO.refl _)
      | (with_reducible exact LeO.none _)
      | (with_reducible refine LeO.ite ?_ ?_)
      | (with_reducible refine LeO.bind ?_ (fun _ => ?_))
      | exact ih0 _ _ _ _
      | exact ih1 _ _ _ _ _
      | exact ih2 _ _ _ _ _ _ _
      | exact ih3 _ _ _ _ _
      | exact ih4 _ _ _ _ _ _ _ _ _ _ _
      | exact ih5 _ _ _ _ _ _ _ _ _ _ _
      | exact ih6 _ _ _ _ _ _ _ _ _
      | exact ih7 _ _ _ _ _ _ _
      | exact ih8 _ _ _ _ _ _ _
      | exact cutplanelaw01_known.mono _
      | exact cutplanelaw01_marked.mono _ _
      | exact cutplaneref01_Add.mono _ _ _
      | exact cutplaneref01_Cmp.mono _ _ _
      | exact cutplaneref01_Of.mono _ _
      | exact cutplaneref01_Same.mono _ _ _
      | exact cutplaneref01_Sub.mono _ _ _
      | exact nat_Add.mono _ _ _
      | exact nat_Cmp.mono _ _ _
      | exact nat_Num.mono _ _
      | exact nat_Of.mono _ _
      | exact nat_Sub.mono _ _ _
      | exact LeO.none _
      | refine LeO.ite ?_ ?_
      | refine LeO.bind ?_ (fun _ => ?_)
    · intro y0 y1 y2 y3 y4 y5 y6 y7 y8
      unfold cutplanelaw01_NatSums.j6
      repeat' first
      | (with_reducible exact ih0 _ _ _ _)
      | (with_reducible exact ih1 _ _ _ _ _)
      | (with_reducible exact ih2 _ _ _ _ _ _ _)
      | (with_reducible exact ih3 _ _ _ _ _)
      | (with_reducible exact ih4 _ _ _ _ _ _ _ _ _ _ _)
      | (with_reducible exact ih5 _ _ _ _ _ _ _ _ _ _ _)
      | (with_reducible exact ih6 _ _ _ _ _ _ _ _ _)
      | (with_reducible exact ih7 _ _ _ _ _ _ _)
      | (with_reducible exact ih8 _ _ _ _ _ _ _)
      | (with_reducible exact cutplanelaw01_known.mono _)
      | (with_reducible exact cutplanelaw01_marked.mono _ _)
      | (with_reducible exact cutplaneref01_Add.mono _ _ _)
      | (with_reducible exact cutplaneref01_Cmp.mono _ _ _)
      | (with_reducible exact cutplaneref01_Of.mono _ _)
      | (with_reducible exact cutplaneref01_Same.mono _ _ _)
      | (with_reducible exact cutplaneref01_Sub.mono _ _ _)
      | (with_reducible exact nat_Add.mono _ _ _)
      | (with_reducible exact nat_Cmp.mono _ _ _)
      | (with_reducible exact nat_Num.mono _ _)
      | (with_reducible exact nat_Of.mono _ _)
      | (with_reducible exact nat_Sub.mono _ _ _)
      | (with_reducible exact LeO.refl _)
      | (with_reducible exact LeO.none _)
      | (with_reducible refine LeO.ite ?_ ?_)
      | (with_reducible refine LeO.bind ?_ (fun _ => ?_))
      | exact ih0 _ _ _ _
      | exact ih1 _ _ _ _ _
      | exact ih2 _ _ _ _ _ _ _
      | exact ih3 _ _ _ _ _
      | exact ih4 _ _ _ _ _ _ _ _ _ _ _
      | exact ih5 _ _ _ _ _ _ _ _ _ _ _
      | exact ih6 _ _ _ _ _ _ _ _ _
      | exact ih7 _ _ _ _ _ _ _
      | exact ih8 _ _ _ _ _ _ _
      | exact cutplanelaw01_known.mono _
      | exact cutplanelaw01_marked.mono _ _
      | exact cutplaneref01_Add.mono _ _ _
      | exact cutplaneref01_Cmp.mono _ _ _
      | exact cutplaneref01_Of.mono _ _
      | exact cutplaneref01_Same.mono _ _ _
      | exact cutplaneref01_Sub.mono _ _ _
      | exact nat_Add.mono _ _ _
      | exact nat_Cmp.mono _ _ _
      | exact nat_Num.mono _ _
      | exact nat_Of.mono _ _
      | exact nat_Sub.mono _ _ _
      | exact LeO.none _
      | refine LeO.ite ?_ ?_
      | refine LeO.bind ?_ (fun _ => ?_)
    · intro y0 y1 y2 y3 y4 y5 y6
      unfold cutplanelaw01_NatSums.j7
      repeat' first
      | (with_reducible exact ih0 _ _ _ _)
      | (with_reducible exact ih1 _ _ _ _ _)
      | (with_reducible exact ih2 _ _ _ _ _ _ _)
      | (with_reducible exact ih3 _ _ _ _ _)
      | (with_reducible exact ih4 _ _ _ _ _ _ _ _ _ _ _)
      | (with_reducible exact ih5 _ _ _ _ _ _ _ _ _ _ _)
      | (with_reducible exact ih6 _ _ _ _ _ _ _ _ _)
      | (with_reducible exact ih7 _ _ _ _ _ _ _)
      | (with_reducible exact ih8 _ _ _ _ _ _ _)
      | (with_reducible exact cutplanelaw01_known.mono _)
      | (with_reducible exact cutplanelaw01_marked.mono _ _)
      | (with_reducible exact cutplaneref01_Add.mono _ _ _)
      | (with_reducible exact cutplaneref01_Cmp.mono _ _ _)
      | (with_reducible exact cutplaneref01_Of.mono _ _)
      | (with_reducible exact cutplaneref01_Same.mono _ _ _)
      | (with_reducible exact cutplaneref01_Sub.mono _ _ _)
      | (with_reducible exact nat_Add.mono _ _ _)
      | (with_reducible exact nat_Cmp.mono _ _ _)
      | (with_reducible exact nat_Num.mono _ _)
      | (with_reducible exact nat_Of.mono _ _)
      | (with_reducible exact nat_Sub.mono _ _ _)
      | (with_reducible exact LeO.refl _)
      | (with_reducible exact LeO.none _)
      | (with_reducible refine LeO.ite ?_ ?_)
      | (with_reducible refine LeO.bind ?_ (fun _ => ?_))
      | exact ih0 _ _ _ _
      | exact ih1 _ _ _ _ _
      | exact ih2 _ _ _ _ _ _ _
      | exact ih3 _ _ _ _ _
      | exact ih4 _ _ _ _ _ _ _ _ _ _ _
      | exact ih5 _ _ _ _ _ _ _ _ _ _ _
      | exact ih6 _ _ _ _ _ _ _ _ _
      | exact ih7 _ _ _ _ _ _ _
      | exact ih8 _ _ _ _ _ _ _
      | exact cutplanelaw01_known.mono _
      | exact cutplanelaw01_marked.mono _ _
      | exact cutplaneref01_Add.mono _ _ _
      | exact cutplaneref01_Cmp.mono _ _ _
      | exact cutplaneref01_Of.mono _ _
      | exact cutplaneref01_Same.mono _ _ _
      | exact cutplaneref01_Sub.mono _ _ _
      | exact nat_Add.mono _ _ _
      | exact nat_Cmp.mono _ _ _
      | exact nat_Num.mono _ _
      | exact nat_Of.mono _ _
      | exact nat_Sub.mono _ _ _
      | exact LeO.none _
      | refine LeO.ite ?_ ?_
      | refine LeO.bind ?_ (fun _ => ?_)
    · intro y0 y1 y2 y3 y4 y5 y6
      unfold cutplanelaw01_NatSums.j8
      repeat' first
      | (with_reducible exact ih0 _ _ _ _)
      | (with_reducible exact ih1 _ _ _ _ _)
      | (with_reducible exact ih2 _ _ _ _ _ _ _)
      | (with_reducible exact ih3 _ _ _ _ _)
      | (with_reducible exact ih4 _ _ _ _ _ _ _ _ _ _ _)
      | (with_reducible exact ih5 _ _ _ _ _ _ _ _ _ _ _)
      | (with_reducible exact ih6 _ _ _ _ _ _ _ _ _)
      | (with_reducible exact ih7 _ _ _ _ _ _ _)
      | (with_reducible exact ih8 _ _ _ _ _ _ _)
      | (with_reducible exact cutplanelaw01_known.mono _)
      | (with_reducible exact cutplanelaw01_marked.mono _ _)
      | (with_reducible exact cutplaneref01_Add.mono _ _ _)
      | (with_reducible exact cutplaneref01_Cmp.mono _ _ _)
      | (with_reducible exact cutplaneref01_Of.mono _ _)
      | (with_reducible exact cutplaneref01_Same.mono _ _ _)
      | (with_reducible exact cutplaneref01_Sub.mono _ _ _)
      | (with_reducible exact nat_Add.mono _ _ _)
      | (with_reducible exact nat_Cmp.mono _ _ _)
      | (with_reducible exact nat_Num.mono _ _)
      | (with_reducible exact nat_Of.mono _ _)
      | (with_reducible exact nat_Sub.mono _ _ _)
      | (with_reducible exact LeO.refl _)
      | (with_reducible exact LeO.none _)
      | (with_reducible refine LeO.ite ?_ ?_)
      | (with_reducible refine LeO.bind ?_ (fun _ => ?_))
      | exact ih0 _ _ _ _
      | exact ih1 _ _ _ _ _
      | exact ih2 _ _ _ _ _ _ _
      | exact ih3 _ _ _ _ _
      | exact ih4 _ _ _ _ _ _ _ _ _ _ _
      | exact ih5 _ _ _ _ _ _ _ _ _ _ _
      | exact ih6 _ _ _ _ _ _ _ _ _
      | exact ih7 _ _ _ _ _ _ _
      | exact ih8 _ _ _ _ _ _ _
      | exact cutplanelaw01_known.mono _
      | exact cutplanelaw01_marked.mono _ _
      | exact cutplaneref01_Add.mono _ _ _
      | exact cutplaneref01_Cmp.mono _ _ _
      | exact cutplaneref01_Of.mono _ _
      | exact cutplaneref01_Same.mono _ _ _
      | exact cutplaneref01_Sub.mono _ _ _
      | exact nat_Add.mono _ _ _
      | exact nat_Cmp.mono _ _ _
      | exact nat_Num.mono _ _
      | exact nat_Of.mono _ _
      | exact nat_Sub.mono _ _ _
      | exact LeO.none _
      | refine LeO.ite ?_ ?_
      | refine LeO.bind ?_ (fun _ => ?_)
theorem cutplanelaw01_NatSums.mono : ∀ a0 a1 a2 k, LeO (cutplanelaw01_NatSums.f k a0 a1 a2) (cutplanelaw01_NatSums.f (k + 1) a0 a1 a2) := by
  intro a0 a1 a2 k
  obtain ⟨ih0, ih1, ih2, ih3, ih4, ih5, ih6, ih7, ih8⟩ := cutplanelaw01_NatSums.mono_l k
  unfold cutplanelaw01_NatSums.f
  repeat' first
      | (with_reducible exact ih0 _ _ _ _)
      | (with_reducible exact ih1 _ _ _ _ _)
      | (with_reducible exact ih2 _ _ _ _ _ _ _)
      | (with_reducible exact ih3 _ _ _ _ _)
      | (with_reducible exact ih4 _ _ _ _ _ _ _ _ _ _ _)
      | (with_reducible exact ih5 _ _ _ _ _ _ _ _ _ _ _)
      | (with_reducible exact ih6 _ _ _ _ _ _ _ _ _)
      | (with_reducible exact ih7 _ _ _ _ _ _ _)
      | (with_reducible exact ih8 _ _ _ _ _ _ _)
      | (with_reducible exact cutplanelaw01_known.mono _)
      | (with_reducible exact cutplanelaw01_marked.mono _ _)
      | (with_reducible exact cutplaneref01_Add.mono _ _ _)
      | (with_reducible exact cutplaneref01_Cmp.mono _ _ _)
      | (with_reducible exact cutplaneref01_Of.mono _ _)
      | (with_reducible exact cutplaneref01_Same.mono _ _ _)
      | (with_reducible exact cutplaneref01_Sub.mono _ _ _)
      | (with_reducible exact nat_Add.mono _ _ _)
      | (with_reducible exact nat_Cmp.mono _ _ _)
      | (with_reducible exact nat_Num.mono _ _)
      | (with_reducible exact nat_Of.mono _ _)
      | (with_reducible exact nat_Sub.mono _ _ _)
      | (with_reducible exact LeO.refl _)
      | (with_reducible exact LeO.none _)
      | (with_reducible refine LeO.ite ?_ ?_)
      | (with_reducible refine LeO.bind ?_ (fun _ => ?_))
      | exact ih0 _ _ _ _
      | exact ih1 _ _ _ _ _
      | exact ih2 _ _ _ _ _ _ _
      | exact ih3 _ _ _ _ _
      | exact ih4 _ _ _ _ _ _ _ _ _ _ _
      | exact ih5 _ _ _ _ _ _ _ _ _ _ _
      | exact ih6 _ _ _ _ _ _ _ _ _
      | exact ih7 _ _ _ _ _ _ _
      | exact ih8 _ _ _ _ _ _ _
      | exact cutplanelaw01_known.mono _
      | exact cutplanelaw01_marked.mono _ _
      | exact cutplaneref01_Add.mono _ _ _
      | exact cutplaneref01_Cmp.mono _ _ _
      | exact cutplaneref01_Of.mono _ _
      | exact cutplaneref01_Same.mono _ _ _
      | exact cutplaneref01_Sub.mono _ _ _
      | exact nat_Add.mono _ _ _
      | exact nat_Cmp.mono _ _ _
      | exact nat_Num.mono _ _
      | exact nat_Of.mono _ _
      | exact nat_Sub.mono _ _ _
      | exact LeO.none _
      | refine LeO.ite ?_ ?_
      | refine LeO.bind ?_ (fun _ => ?_)
set_option maxHeartbeats 8000000 in
set_option maxRecDepth 100000 in
theorem cutplanelaw01_NatSums.calls (k : Nat) (A0 : Option Addr) (c0 : Nat) (l0 : List Int) (A1 : Option Addr) (c1 : Nat) (l1 : List Int) (a2 : Int) (r : Bool) (w : World) (hr0 : Kd.C (Kd.int .u32) w A0 l0.length l0) (hc0 : l0.length ≤ c0) (hr1 : Kd.C (Kd.int .u32) w A1 l1.length l1) (hc1 : l1.length ≤ c1) (h : cutplanelaw01_NatSums.f k l0 l1 a2 = some r) :
    Calls Try.prog 3 #[.slice A0 l0.length c0, .slice A1 l1.length c1, .int .u64 a2] w fun e w' => e = .returned (.bool r) ∧ Below w.heap.size w w' := by
  have HR0 := Aside0.mk hr0
  have HC0 := Aside0.mk hc0
  clear hr0 hc0
  have HR1 := Aside0.mk hr1
  have HC1 := Aside0.mk hc1
  clear hr1 hc1
  have HB := Aside0.mk (Below.refl w.heap.size w)
  have H : ((cutplanelaw01_long.f l0 4100).bind fun t252 => (if t252 = true then (cutplanelaw01_NatSums.j0 k l0 l1 a2 true) else ((cutplanelaw01_long.f l1 4100).bind fun t253 => (cutplanelaw01_NatSums.j0 k l0 l1 a2 t253)))) = some r := h
  clear h
  have HC4 := Aside0.mk H
  clear H
  go_enter Try.func3, Try.ntmps3
  go_upto_region 1 with (fail)
  go_cut [25] (fun v25 wc => ∃ (kq : Nat) (x25_3 : Bool), v25 = .bool x25_3 ∧ Aside0 (cutplanelaw01_NatSums.j0 kq l0 l1 a2 x25_3 = some r) ∧ Aside0 (kq ≤ k) ∧ Aside0 (Below w.heap.size w wc))
  case first =>
    have H := HC4.out
    clear HC4
    replace H := Option.bind_eq_some_iff.mp H
    obtain ⟨t252, A50, H⟩ := H
    replace H : (if t252 = true then (cutplanelaw01_NatSums.j0 k l0 l1 a2 true) else ((cutplanelaw01_long.f l1 4100).bind fun t253 => (cutplanelaw01_NatSums.j0 k l0 l1 a2 t253))) = some r := H
    have A5 := Aside0.mk A50
    clear A50
    by_cases c6 : t252 = true
    · subst c6
      have H1 : (cutplanelaw01_NatSums.j0 k l0 l1 a2 true) = some r := by rw [if_pos rfl] at H; exact H
      clear H
      have H := H1
      clear H1
      as_aux_lemma =>
        have H' := Aside0.mk H
        clear H
        go_wp2_with (first | ((with_reducible refine gate_callee (f := 12) rfl ?_); refine goesL_ (some 21) rfl rfl Try.func12 (by kernel_rfl) rfl #[.slice A0 l0.length c0, .int .i64 4100] rfl (by (try simp only [List.map_toArray, List.map_cons, List.map_nil]); first | done | rfl | (simp only [List.length_drop, List.length_take]; rfl)) ?_; (with_reducible refine (cutplanelaw01_long.calls _ _ l0 4100 true _ ?side1 ?side2 A5.out).mono ?_); (case side1 => repeat (first | exact (Kd.C_below HR0.out HB.out) | (with_reducible refine Kd.C_alloc ?_ _) | (with_reducible refine Kd.C_drewN ?_ _) | (with_reducible refine Kd.C_drew ?_))); (case side2 => exact HC0.out); rintro e w' ⟨rfl, ⟨nd, rfl⟩⟩; refine ⟨_, rfl, ?_⟩))
        go_meet
        case rel => exact ⟨_, (true), (by first | rfl | (simp; done) | (simp [*]; done)), H', ⟨by first | omega | exact Nat.le_refl _⟩, ⟨by repeat (first | (with_reducible first | exact HB.out | apply below_alloc | apply pw_below_drewN | apply below_drew1) | exact HB.out)⟩⟩
    · replace c6 := Bool.eq_false_iff.mpr c6
      subst c6
      have H1 : ((cutplanelaw01_long.f l1 4100).bind fun t253 => (cutplanelaw01_NatSums.j0 k l0 l1 a2 t253)) = some r := by rw [if_neg (show ¬ (false = true) by decide)] at H; exact H
      clear H
      have H := H1
      clear H1
      replace H := Option.bind_eq_some_iff.mp H
      obtain ⟨t253, A70, H⟩ := H
      replace H : (cutplanelaw01_NatSums.j0 k l0 l1 a2 t253) = some r := H
      have A7 := Aside0.mk A70
      clear A70
      as_aux_lemma =>
        have H' := Aside0.mk H
        clear H
        go_wp2_with (first | ((with_reducible refine gate_callee (f := 12) rfl ?_); refine goesL_ (some 21) rfl rfl Try.func12 (by kernel_rfl) rfl #[.slice A0 l0.length c0, .int .i64 4100] rfl (by (try simp only [List.map_toArray, List.map_cons, List.map_nil]); first | done | rfl | (simp only [List.length_drop, List.length_take]; rfl)) ?_; (with_reducible refine (cutplanelaw01_long.calls _ _ l0 4100 false _ ?side1 ?side2 A5.out).mono ?_); (case side1 => repeat (first | exact (Kd.C_below HR0.out HB.out) | (with_reducible refine Kd.C_alloc ?_ _) | (with_reducible refine Kd.C_drewN ?_ _) | (with_reducible refine Kd.C_drew ?_))); (case side2 => exact HC0.out); rintro e w' ⟨rfl, ⟨nd, rfl⟩⟩; refine ⟨_, rfl, ?_⟩) | (go_at_call 12; (with_reducible refine (cutplanelaw01_long.calls _ _ l1 4100 t253 _ ?side1 ?side2 A7.out).mono ?_); (case side1 => repeat (first | exact (Kd.C_below HR1.out (by repeat (first | (with_reducible first | exact HB.out | apply below_alloc | apply pw_below_drewN | apply below_drew1) | exact HB.out))) | (with_reducible refine Kd.C_alloc ?_ _) | (with_reducible refine Kd.C_drewN ?_ _) | (with_reducible refine Kd.C_drew ?_))); (case side2 => exact HC1.out); rintro e w' ⟨rfl, ⟨nd, rfl⟩⟩))
        go_meet
        case rel => exact ⟨_, (t253), (by first | rfl | (simp; done) | (simp [*]; done)), H', ⟨by first | omega | exact Nat.le_refl _⟩, ⟨by repeat (first | (with_reducible first | exact HB.out | apply below_alloc | apply pw_below_drewN | apply below_drew1) | exact HB.out)⟩⟩
  case rest =>
    clear HC4
    try clear c1
    try clear p2
    try clear c3
    try clear c6
    obtain ⟨kq, x25_3, rfl, HA, HJ3, HB⟩ := hcut
    cases kq with
    | zero => exact absurd HA.out (by simp [cutplanelaw01_NatSums.j0])
    | succ kj3 =>
      have H := HA.out
      clear HA
      simp only [cutplanelaw01_NatSums.j0] at H
      by_cases c8 : x25_3 = true
      · subst c8
        have H1 : ((cutplanelaw01_known.f kj3).bind fun t254 => (some t254)) = some r := by rw [if_pos rfl] at H; exact H
        clear H
        have H := H1
        clear H1
        replace H := Option.bind_eq_some_iff.mp H
        obtain ⟨t254, A90, H⟩ := H
        replace H : (some t254) = some r := H
        have A9 := Aside0.mk A90
        clear A90
        as_aux_lemma =>
          obtain rfl := Option.some.inj H
          go_wp2_with (first | ((with_reducible refine gate_callee (f := 13) rfl ?_); refine goesL_ (some 26) rfl rfl Try.func13 (by kernel_rfl) rfl #[] rfl (by (try simp only [List.map_toArray, List.map_cons, List.map_nil]); first | done | rfl | (simp only [List.length_drop, List.length_take]; rfl)) ?_; (with_reducible refine (cutplanelaw01_known.calls kj3  t254 _ A9.out).mono ?_); rintro e w10 ⟨rfl, hb⟩; refine ⟨_, rfl, ?_⟩; have n0_ := Aside0.mk (below_step (by repeat (first | (with_reducible first | exact HB.out | apply below_alloc | apply pw_below_drewN | apply below_drew1) | exact HB.out)) hb); clear HB; have HB := n0_; clear n0_; (try clear hb); (try clear hb2); (try clear hk); (try clear hi)))
          go_ret
          exact ⟨by first | rfl | (simp [errW_none, errW_some] <;> rfl) | (simp [*, errW_none, errW_some] <;> rfl), by repeat (first | (with_reducible first | exact HB.out | apply below_alloc | apply pw_below_drewN | apply below_drew1) | exact HB.out)⟩
      · replace c8 := Bool.eq_false_iff.mpr c8
        subst c8
        have H1 : ((cutplanelaw01_lent.f l0).bind fun t255 => ((cutplanelaw01_lent.f l1).bind fun t258 => ((nat_May.f t255).bind fun t261 => ((cutplaneref01_May.f l0).bind fun t262 => (if (t261 != t262) = true then (cutplanelaw01_NatSums.j1 kj3 l0 l1 t255 t258 true) else ((nat_Of.f kj3 a2).bind fun t263 => ((cutplaneref01_Of.f kj3 a2).bind fun t266 => ((cutplaneref01_Same.f kj3 t263 t266).bind fun t269 => (cutplanelaw01_NatSums.j1 kj3 l0 l1 t255 t258 (!t269)))))))))) = some r := by rw [if_neg (show ¬ (false = true) by decide)] at H; exact H
        clear H
        have H := H1
        clear H1
        replace H := Option.bind_eq_some_iff.mp H
        obtain ⟨t255, A110, H⟩ := H
        replace H : ((cutplanelaw01_lent.f l1).bind fun t258 => ((nat_May.f t255).bind fun t261 => ((cutplaneref01_May.f l0).bind fun t262 => (if (t261 != t262) = true then (cutplanelaw01_NatSums.j1 kj3 l0 l1 t255 t258 true) else ((nat_Of.f kj3 a2).bind fun t263 => ((cutplaneref01_Of.f kj3 a2).bind fun t266 => ((cutplaneref01_Same.f kj3 t263 t266).bind fun t269 => (cutplanelaw01_NatSums.j1 kj3 l0 l1 t255 t258 (!t269))))))))) = some r := H
        have A11 := Aside0.mk A110
        clear A110
        replace H := Option.bind_eq_some_iff.mp H
        obtain ⟨t258, A120, H⟩ := H
        replace H : ((nat_May.f t255).bind fun t261 => ((cutplaneref01_May.f l0).bind fun t262 => (if (t261 != t262) = true then (cutplanelaw01_NatSums.j1 kj3 l0 l1 t255 t258 true) else ((nat_Of.f kj3 a2).bind fun t263 => ((cutplaneref01_Of.f kj3 a2).bind fun t266 => ((cutplaneref01_Same.f kj3 t263 t266).bind fun t269 => (cutplanelaw01_NatSums.j1 kj3 l0 l1 t255 t258 (!t269)))))))) = some r := H
        have A12 := Aside0.mk A120
        clear A120
        have HC13 := Aside0.mk H
        clear H
        go_upto_region 4 with (first | ((with_reducible refine gate_callee (f := 14) rfl ?_); refine goesL_ (some 28) rfl rfl Try.func14 (by kernel_rfl) rfl #[.slice A0 l0.length c0] rfl (by (try simp only [List.map_toArray, List.map_cons, List.map_nil]); first | done | rfl | (simp only [List.length_drop, List.length_take]; rfl)) ?_; (with_reducible refine (cutplanelaw01_lent.calls _ _ l0 t255 _ ?side1 ?side2 A11.out).mono ?_); (case side1 => repeat (first | exact (Kd.C_below HR0.out HB.out) | (with_reducible refine Kd.C_alloc ?_ _) | (with_reducible refine Kd.C_drewN ?_ _) | (with_reducible refine Kd.C_drew ?_))); (case side2 => exact HC0.out); rintro e w14 ⟨v256, rfl, ho0, hb⟩; refine ⟨_, rfl, ?_⟩; have n0_ := Aside0.mk (Kd.R_lower ho0 (below_size (by repeat (first | (with_reducible first | exact HB.out | apply below_alloc | apply pw_below_drewN | apply below_drew1) | exact HB.out)))); have n1_ := Aside0.mk (below_step (by repeat (first | (with_reducible first | exact HB.out | apply below_alloc | apply pw_below_drewN | apply below_drew1) | exact HB.out)) hb); clear HB; have HO257 := n0_; have HB := n1_; clear n0_ n1_; (try clear hb); (try clear hb2); (try clear hk); (try clear hi); (try clear ho0)) | ((with_reducible refine gate_callee (f := 14) rfl ?_); refine goesL_ (some 30) rfl rfl Try.func14 (by kernel_rfl) rfl #[.slice A1 l1.length c1] rfl (by (try simp only [List.map_toArray, List.map_cons, List.map_nil]); first | done | rfl | (simp only [List.length_drop, List.length_take]; rfl)) ?_; (with_reducible refine (cutplanelaw01_lent.calls _ _ l1 t258 _ ?side1 ?side2 A12.out).mono ?_); (case side1 => repeat (first | exact (Kd.C_below HR1.out HB.out) | (with_reducible refine Kd.C_alloc ?_ _) | (with_reducible refine Kd.C_drewN ?_ _) | (with_reducible refine Kd.C_drew ?_))); (case side2 => exact HC1.out); rintro e w15 ⟨v259, rfl, ho0, hb⟩; refine ⟨_, rfl, ?_⟩; have n0_ := Aside0.mk (Kd.R_elder' (by (with_reducible repeat (first | apply Kd.R_alloc | apply Kd.R_drewN | apply Kd.R_drew)); exact HO257.out) (Kd.R_base ho0) hb); have n1_ := Aside0.mk (Kd.R_lower (Kd.R_new' ho0 (Kd.R_lt (by (with_reducible repeat (first | apply Kd.R_alloc | apply Kd.R_drewN | apply Kd.R_drew)); exact HO257.out))) (below_size (by repeat (first | (with_reducible first | exact HB.out | apply below_alloc | apply pw_below_drewN | apply below_drew1) | exact HB.out)))); have n2_ := Aside0.mk (below_step (by repeat (first | (with_reducible first | exact HB.out | apply below_alloc | apply pw_below_drewN | apply below_drew1) | exact HB.out)) hb); clear HO257; clear HB; have HO257 := n0_; have HO260 := n1_; have HB := n2_; clear n0_ n1_ n2_; (try clear hb); (try clear hb2); (try clear hk); (try clear hi); (try clear ho0)))
        (try simp only [Act.put, List.setIfInBounds_toArray, List.set_cons_zero, List.set_cons_succ])
        go_cut [43] (fun v43 wc => ∃ (kq : Nat) (x43_12 : Bool), v43 = .bool x43_12 ∧ Aside0 (cutplanelaw01_NatSums.j1 kq l0 l1 t255 t258 x43_12 = some r) ∧ Aside0 (kq ≤ kj3) ∧ Aside0 (Kd.R (Kd.int .u32) 42 wc w.heap.size (fun k_ => some k_ ≠ (v259 : Value).ownBlock) v256 t255) ∧ Aside0 (Kd.R (Kd.int .u32) 42 wc w.heap.size (fun k_ => some k_ ≠ (v256 : Value).ownBlock) v259 t258) ∧ Aside0 (Below w.heap.size w wc))
        case first =>
          have H := HC13.out
          clear HC13
          replace H := Option.bind_eq_some_iff.mp H
          obtain ⟨t261, A160, H⟩ := H
          replace H : ((cutplaneref01_May.f l0).bind fun t262 => (if (t261 != t262) = true then (cutplanelaw01_NatSums.j1 kj3 l0 l1 t255 t258 true) else ((nat_Of.f kj3 a2).bind fun t263 => ((cutplaneref01_Of.f kj3 a2).bind fun t266 => ((cutplaneref01_Same.f kj3 t263 t266).bind fun t269 => (cutplanelaw01_NatSums.j1 kj3 l0 l1 t255 t258 (!t269))))))) = some r := H
          have A16 := Aside0.mk A160
          clear A160
          replace H := Option.bind_eq_some_iff.mp H
          obtain ⟨t262, A170, H⟩ := H
          replace H : (if (t261 != t262) = true then (cutplanelaw01_NatSums.j1 kj3 l0 l1 t255 t258 true) else ((nat_Of.f kj3 a2).bind fun t263 => ((cutplaneref01_Of.f kj3 a2).bind fun t266 => ((cutplaneref01_Same.f kj3 t263 t266).bind fun t269 => (cutplanelaw01_NatSums.j1 kj3 l0 l1 t255 t258 (!t269)))))) = some r := H
          have A17 := Aside0.mk A170
          clear A170
          by_cases c18 : (t261 != t262) = true
          · rw [if_pos c18] at H
            have c18b0 : (t261 != t262) = true := c18
            (try (have c18b1 : decide (t261 = t262) = false := by simpa using c18))
            (try (have c18b2 : (t261 == t262) = false := by simpa using c18))
            (try (have c18b3 : ¬ (t261 = t262) := by simpa using c18))
            clear c18
            (first | rw [c18b0] | (simp only [i64_w, i32_w]; rw [c18b0]) | skip)
            as_aux_lemma =>
              have H' := Aside0.mk H
              clear H
              obtain ⟨Ao19, co19, eo19⟩ := Kd.R_slice HO257.out
              subst eo19
              go_wp2_with (first | ((with_reducible refine gate_callee (f := 15) rfl ?_); refine goesL_ (some 32) rfl rfl Try.func15 (by kernel_rfl) rfl #[.slice Ao19 t255.length co19] rfl (by (try simp only [List.map_toArray, List.map_cons, List.map_nil]); first | done | rfl | (simp only [List.length_drop, List.length_take]; rfl)) ?_; (with_reducible refine (nat_May.calls _ _ t255 t261 _ ?side1 ?side2 A16.out).mono ?_); (case side1 => repeat (first | exact (Kd.R_reads' HO257.out).2.2 | (with_reducible refine Kd.C_alloc ?_ _) | (with_reducible refine Kd.C_drewN ?_ _) | (with_reducible refine Kd.C_drew ?_))); (case side2 => exact (Kd.R_reads' HO257.out).2.1); rintro e w' ⟨rfl, ⟨nd, rfl⟩⟩; refine ⟨_, rfl, ?_⟩) | ((with_reducible refine gate_callee (f := 16) rfl ?_); refine goesL_ (some 34) rfl rfl Try.func16 (by kernel_rfl) rfl #[.slice A0 l0.length c0] rfl (by (try simp only [List.map_toArray, List.map_cons, List.map_nil]); first | done | rfl | (simp only [List.length_drop, List.length_take]; rfl)) ?_; (with_reducible refine (cutplaneref01_May.calls _ _ l0 t262 _ ?side1 ?side2 A17.out).mono ?_); (case side1 => repeat (first | exact (Kd.C_below HR0.out (by repeat (first | (with_reducible first | exact HB.out | apply below_alloc | apply pw_below_drewN | apply below_drew1) | exact HB.out))) | (with_reducible refine Kd.C_alloc ?_ _) | (with_reducible refine Kd.C_drewN ?_ _) | (with_reducible refine Kd.C_drew ?_))); (case side2 => exact HC0.out); rintro e w' ⟨rfl, ⟨nd, rfl⟩⟩; refine ⟨_, rfl, ?_⟩))
              go_meet
              case rel => exact ⟨_, (true), (by first | rfl | (simp; done) | (simp [*]; done)), H', ⟨by have := HJ3.out; first | omega | exact Nat.le_refl _⟩, ⟨by (with_reducible repeat (first | apply Kd.R_alloc | apply Kd.R_drewN | apply Kd.R_drew)); exact Kd.R_mono HO257.out (fun _ hk => hk.2)⟩, ⟨by (with_reducible repeat (first | apply Kd.R_alloc | apply Kd.R_drewN | apply Kd.R_drew)); exact Kd.R_mono HO260.out (fun _ hk => hk.2)⟩, ⟨by repeat (first | (with_reducible first | exact HB.out | apply below_alloc | apply pw_below_drewN | apply below_drew1) | exact HB.out)⟩⟩
          · rw [if_neg c18] at H
            have c18b0 : (t261 != t262) = false := by simpa using c18
            (try (have c18b1 : decide (t261 = t262) = true := by simpa using c18))
            (try (have c18b2 : (t261 == t262) = true := by simpa using c18))
            clear c18
            (first | rw [c18b0] | (simp only [i64_w, i32_w]; rw [c18b0]) | skip)
            replace H := Option.bind_eq_some_iff.mp H
            obtain ⟨t263, A200, H⟩ := H
            replace H : ((cutplaneref01_Of.f kj3 a2).bind fun t266 => ((cutplaneref01_Same.f kj3 t263 t266).bind fun t269 => (cutplanelaw01_NatSums.j1 kj3 l0 l1 t255 t258 (!t269)))) = some r := H
            have A20 := Aside0.mk A200
            clear A200
            replace H := Option.bind_eq_some_iff.mp H
            obtain ⟨t266, A210, H⟩ := H
            replace H : ((cutplaneref01_Same.f kj3 t263 t266).bind fun t269 => (cutplanelaw01_NatSums.j1 kj3 l0 l1 t255 t258 (!t269))) = some r := H
            have A21 := Aside0.mk A210
            clear A210
            replace H := Option.bind_eq_some_iff.mp H
            obtain ⟨t269, A220, H⟩ := H
            replace H : (cutplanelaw01_NatSums.j1 kj3 l0 l1 t255 t258 (!t269)) = some r := H
            have A22 := Aside0.mk A220
            clear A220
            as_aux_lemma =>
              have H' := Aside0.mk H
              clear H
              obtain ⟨Ao23, co23, eo23⟩ := Kd.R_slice HO257.out
              subst eo23
              go_wp2_with (first | ((with_reducible refine gate_callee (f := 15) rfl ?_); refine goesL_ (some 32) rfl rfl Try.func15 (by kernel_rfl) rfl #[.slice Ao23 t255.length co23] rfl (by (try simp only [List.map_toArray, List.map_cons, List.map_nil]); first | done | rfl | (simp only [List.length_drop, List.length_take]; rfl)) ?_; (with_reducible refine (nat_May.calls _ _ t255 t261 _ ?side1 ?side2 A16.out).mono ?_); (case side1 => repeat (first | exact (Kd.R_reads' HO257.out).2.2 | (with_reducible refine Kd.C_alloc ?_ _) | (with_reducible refine Kd.C_drewN ?_ _) | (with_reducible refine Kd.C_drew ?_))); (case side2 => exact (Kd.R_reads' HO257.out).2.1); rintro e w' ⟨rfl, ⟨nd, rfl⟩⟩; refine ⟨_, rfl, ?_⟩) | ((with_reducible refine gate_callee (f := 16) rfl ?_); refine goesL_ (some 34) rfl rfl Try.func16 (by kernel_rfl) rfl #[.slice A0 l0.length c0] rfl (by (try simp only [List.map_toArray, List.map_cons, List.map_nil]); first | done | rfl | (simp only [List.length_drop, List.length_take]; rfl)) ?_; (with_reducible refine (cutplaneref01_May.calls _ _ l0 t262 _ ?side1 ?side2 A17.out).mono ?_); (case side1 => repeat (first | exact (Kd.C_below HR0.out (by repeat (first | (with_reducible first | exact HB.out | apply below_alloc | apply pw_below_drewN | apply below_drew1) | exact HB.out))) | (with_reducible refine Kd.C_alloc ?_ _) | (with_reducible refine Kd.C_drewN ?_ _) | (with_reducible refine Kd.C_drew ?_))); (case side2 => exact HC0.out); rintro e w' ⟨rfl, ⟨nd, rfl⟩⟩; refine ⟨_, rfl, ?_⟩) | (go_at_call 18; (with_reducible refine (nat_Of.calls kj3 a2 t263 _ A20.out).mono ?_); rintro e w24 ⟨v264, rfl, ho0, hb⟩; have n0_ := Aside0.mk (Kd.R_elder' (by (with_reducible repeat (first | apply Kd.R_alloc | apply Kd.R_drewN | apply Kd.R_drew)); exact HO257.out) (Kd.R_base ho0) hb); have n1_ := Aside0.mk (Kd.R_elder' (by (with_reducible repeat (first | apply Kd.R_alloc | apply Kd.R_drewN | apply Kd.R_drew)); exact HO260.out) (Kd.R_base ho0) hb); have n2_ := Aside0.mk (Kd.R_lower (Kd.R_new' (Kd.R_new' ho0 (Kd.R_lt (by (with_reducible repeat (first | apply Kd.R_alloc | apply Kd.R_drewN | apply Kd.R_drew)); exact HO257.out))) (Kd.R_lt (by (with_reducible repeat (first | apply Kd.R_alloc | apply Kd.R_drewN | apply Kd.R_drew)); exact HO260.out))) (below_size (by repeat (first | (with_reducible first | exact HB.out | apply below_alloc | apply pw_below_drewN | apply below_drew1) | exact HB.out)))); have n3_ := Aside0.mk (below_step (by repeat (first | (with_reducible first | exact HB.out | apply below_alloc | apply pw_below_drewN | apply below_drew1) | exact HB.out)) hb); clear HO257; clear HO260; clear HB; have HO257 := n0_; have HO260 := n1_; have HO265 := n2_; have HB := n3_; clear n0_ n1_ n2_ n3_; (try clear hb); (try clear hb2); (try clear hk); (try clear hi); (try clear ho0)) | (go_at_call 19; (with_reducible refine (cutplaneref01_Of.calls kj3 a2 t266 _ A21.out).mono ?_); rintro e w25 ⟨v267, rfl, ho0, hb⟩; have n0_ := Aside0.mk (Kd.R_elder' (by (with_reducible repeat (first | apply Kd.R_alloc | apply Kd.R_drewN | apply Kd.R_drew)); exact HO257.out) (Kd.R_base ho0) hb); have n1_ := Aside0.mk (Kd.R_elder' (by (with_reducible repeat (first | apply Kd.R_alloc | apply Kd.R_drewN | apply Kd.R_drew)); exact HO260.out) (Kd.R_base ho0) hb); have n2_ := Aside0.mk (Kd.R_elder' (by (with_reducible repeat (first | apply Kd.R_alloc | apply Kd.R_drewN | apply Kd.R_drew)); exact HO265.out) (Kd.R_base ho0) hb); have n3_ := Aside0.mk (Kd.R_lower (Kd.R_new' (Kd.R_new' (Kd.R_new' ho0 (Kd.R_lt (by (with_reducible repeat (first | apply Kd.R_alloc | apply Kd.R_drewN | apply Kd.R_drew)); exact HO257.out))) (Kd.R_lt (by (with_reducible repeat (first | apply Kd.R_alloc | apply Kd.R_drewN | apply Kd.R_drew)); exact HO260.out))) (Kd.R_lt (by (with_reducible repeat (first | apply Kd.R_alloc | apply Kd.R_drewN | apply Kd.R_drew)); exact HO265.out))) (below_size (by repeat (first | (with_reducible first | exact HB.out | apply below_alloc | apply pw_below_drewN | apply below_drew1) | exact HB.out)))); have n4_ := Aside0.mk (below_step (by repeat (first | (with_reducible first | exact HB.out | apply below_alloc | apply pw_below_drewN | apply below_drew1) | exact HB.out)) hb); clear HO257; clear HO260; clear HO265; clear HB; have HO257 := n0_; have HO260 := n1_; have HO265 := n2_; have HO268 := n3_; have HB := n4_; clear n0_ n1_ n2_ n3_ n4_; (try clear hb); (try clear hb2); (try clear hk); (try clear hi); (try clear ho0); obtain ⟨Ao26, co26, eo26⟩ := Kd.R_slice HO265.out; subst eo26; obtain ⟨Ao27, co27, eo27⟩ := Kd.R_slice HO268.out; subst eo27) | (go_at_call 17; (with_reducible refine (cutplaneref01_Same.calls kj3 _ _ t263 _ _ t266 t269 _ ?side1 ?side2 ?side3 ?side4 A22.out).mono ?_); (case side1 => repeat (first | exact (Kd.R_reads' HO265.out).2.2 | (with_reducible refine Kd.C_alloc ?_ _) | (with_reducible refine Kd.C_drewN ?_ _) | (with_reducible refine Kd.C_drew ?_))); (case side2 => exact (Kd.R_reads' HO265.out).2.1); (case side3 => repeat (first | exact (Kd.R_reads' HO268.out).2.2 | (with_reducible refine Kd.C_alloc ?_ _) | (with_reducible refine Kd.C_drewN ?_ _) | (with_reducible refine Kd.C_drew ?_))); (case side4 => exact (Kd.R_reads' HO268.out).2.1); rintro e w' ⟨rfl, ⟨nd, rfl⟩⟩))
              go_meet
              case rel => exact ⟨_, (!t269), (by first | rfl | (simp; done) | (simp [*]; done)), H', ⟨by have := HJ3.out; first | omega | exact Nat.le_refl _⟩, ⟨by (with_reducible repeat (first | apply Kd.R_alloc | apply Kd.R_drewN | apply Kd.R_drew)); exact Kd.R_mono HO257.out (fun _ hk => hk.1.1.2)⟩, ⟨by (with_reducible repeat (first | apply Kd.R_alloc | apply Kd.R_drewN | apply Kd.R_drew)); exact Kd.R_mono HO260.out (fun _ hk => hk.1.1.2)⟩, ⟨by repeat (first | (with_reducible first | exact HB.out | apply below_alloc | apply pw_below_drewN | apply below_drew1) | exact HB.out)⟩⟩
        case rest =>
          clear HC13
          try clear c1
          try clear p2
          try clear c3
          try clear c6
          try clear c8
          try clear c12
          try clear c13
          try clear c14
          try clear c15
          try clear c16
          try clear c18
          try clear c18b0
          try clear c18b1
          try clear c18b2
          try clear p2
          obtain ⟨kq, x43_12, rfl, HA, HJ12, HO_7, HO_8, HB⟩ := hcut
          cases kq with
          | zero => exact absurd HA.out (by simp [cutplanelaw01_NatSums.j1])
          | succ kj12 =>
            have H := HA.out
            clear HA
            simp only [cutplanelaw01_NatSums.j1] at H
            by_cases c28 : x43_12 = true
            · subst c28
              have H1 : (some false) = some r := by rw [if_pos rfl] at H; exact H
              clear H
              have H := H1
              clear H1
              as_aux_lemma =>
                obtain rfl := Option.some.inj H
                go_wp2
                go_ret
                exact ⟨by first | rfl | (simp [errW_none, errW_some] <;> rfl) | (simp [*, errW_none, errW_some] <;> rfl), by repeat (first | (with_reducible first | exact HB.out | apply below_alloc | apply pw_below_drewN | apply below_drew1) | exact HB.out)⟩
            · replace c28 := Bool.eq_false_iff.mpr c28
              subst c28
              have H1 : ((nat_Num.f kj12 t255).bind fun bt270 => ((cutplaneref01_May.f l0).bind fun t272 => (if t272 = true then (cutplanelaw01_NatSums.j2 kj12 l0 l1 t255 t258 bt270.1 bt270.2 (decide ((l0.length : Int) ≤ 2))) else (cutplanelaw01_NatSums.j2 kj12 l0 l1 t255 t258 bt270.1 bt270.2 false)))) = some r := by rw [if_neg (show ¬ (false = true) by decide)] at H; exact H
              clear H
              have H := H1
              clear H1
              replace H := Option.bind_eq_some_iff.mp H
              obtain ⟨⟨t270, t271⟩, A290, H⟩ := H
              replace H : ((cutplaneref01_May.f l0).bind fun t272 => (if t272 = true then (cutplanelaw01_NatSums.j2 kj12 l0 l1 t255 t258 t270 t271 (decide ((l0.length : Int) ≤ 2))) else (cutplanelaw01_NatSums.j2 kj12 l0 l1 t255 t258 t270 t271 false))) = some r := H
              have A29 := Aside0.mk A290
              clear A290
              have HC30 := Aside0.mk H
              clear H
              obtain ⟨Ao31, co31, eo31⟩ := Kd.R_slice HO_7.out
              subst eo31
              go_upto_region 7 with (first | ((with_reducible refine gate_callee (f := 20) rfl ?_); refine goesL_ (some 46) rfl rfl Try.func20 (by kernel_rfl) rfl #[.slice Ao31 t255.length co31] rfl (by (try simp only [List.map_toArray, List.map_cons, List.map_nil]); first | done | rfl | (simp only [List.length_drop, List.length_take]; rfl)) ?_; (with_reducible refine (nat_Num.calls kj12 _ _ t255 t270 t271 _ ?side1 ?side2 A29.out).mono ?_); (case side1 => repeat (first | exact (Kd.R_reads' HO_7.out).2.2 | (with_reducible refine Kd.C_alloc ?_ _) | (with_reducible refine Kd.C_drewN ?_ _) | (with_reducible refine Kd.C_drew ?_))); (case side2 => exact (Kd.R_reads' HO_7.out).2.1); rintro e w' ⟨rfl, ⟨nd, rfl⟩⟩; refine ⟨_, rfl, ?_⟩))
              (try simp only [Act.put, List.setIfInBounds_toArray, List.set_cons_zero, List.set_cons_succ])
              go_cut [11] (fun v11 wc => ∃ (kq : Nat) (x11_29 : Bool), v11 = .bool x11_29 ∧ Aside0 (cutplanelaw01_NatSums.j2 kq l0 l1 t255 t258 t270 t271 x11_29 = some r) ∧ Aside0 (kq ≤ kj12) ∧ Aside0 (Kd.R (Kd.int .u32) 42 wc w.heap.size (fun k_ => some k_ ≠ (v259 : Value).ownBlock) (.slice Ao31 t255.length co31) t255) ∧ Aside0 (Kd.R (Kd.int .u32) 42 wc w.heap.size (fun k_ => some k_ ≠ ((.slice Ao31 t255.length co31) : Value).ownBlock) v259 t258) ∧ Aside0 (Below w.heap.size w wc))
              case first =>
                have H := HC30.out
                clear HC30
                replace H := Option.bind_eq_some_iff.mp H
                obtain ⟨t272, A320, H⟩ := H
                replace H : (if t272 = true then (cutplanelaw01_NatSums.j2 kj12 l0 l1 t255 t258 t270 t271 (decide ((l0.length : Int) ≤ 2))) else (cutplanelaw01_NatSums.j2 kj12 l0 l1 t255 t258 t270 t271 false)) = some r := H
                have A32 := Aside0.mk A320
                clear A320
                by_cases c33 : t272 = true
                · subst c33
                  have H1 : (cutplanelaw01_NatSums.j2 kj12 l0 l1 t255 t258 t270 t271 (decide ((l0.length : Int) ≤ 2))) = some r := by rw [if_pos rfl] at H; exact H
                  clear H
                  have H := H1
                  clear H1
                  as_aux_lemma =>
                    have H' := Aside0.mk H
                    clear H
                    go_wp2_with (first | ((with_reducible refine gate_callee (f := 16) rfl ?_); refine goesL_ (some 50) rfl rfl Try.func16 (by kernel_rfl) rfl #[.slice A0 l0.length c0] rfl (by (try simp only [List.map_toArray, List.map_cons, List.map_nil]); first | done | rfl | (simp only [List.length_drop, List.length_take]; rfl)) ?_; (with_reducible refine (cutplaneref01_May.calls _ _ l0 true _ ?side1 ?side2 A32.out).mono ?_); (case side1 => repeat (first | exact (Kd.C_below HR0.out HB.out) | (with_reducible refine Kd.C_alloc ?_ _) | (with_reducible refine Kd.C_drewN ?_ _) | (with_reducible refine Kd.C_drew ?_))); (case side2 => exact HC0.out); rintro e w' ⟨rfl, ⟨nd, rfl⟩⟩; refine ⟨_, rfl, ?_⟩))
                    go_meet
                    case rel => exact ⟨_, (decide ((l0.length : Int) ≤ 2)), (by first | rfl | (simp; done) | (simp [*]; done)), H', ⟨by have := HJ3.out; have := HJ12.out; first | omega | exact Nat.le_refl _⟩, ⟨by (with_reducible repeat (first | apply Kd.R_alloc | apply Kd.R_drewN | apply Kd.R_drew)); exact HO_7.out⟩, ⟨by (with_reducible repeat (first | apply Kd.R_alloc | apply Kd.R_drewN | apply Kd.R_drew)); exact HO_8.out⟩, ⟨by repeat (first | (with_reducible first | exact HB.out | apply below_alloc | apply pw_below_drewN | apply below_drew1) | exact HB.out)⟩⟩
                · replace c33 := Bool.eq_false_iff.mpr c33
                  subst c33
                  have H1 : (cutplanelaw01_NatSums.j2 kj12 l0 l1 t255 t258 t270 t271 false) = some r := by rw [if_neg (show ¬ (false = true) by decide)] at H; exact H
                  clear H
                  have H := H1
                  clear H1
                  as_aux_lemma =>
                    have H' := Aside0.mk H
                    clear H
                    go_wp2_with (first | ((with_reducible refine gate_callee (f := 16) rfl ?_); refine goesL_ (some 50) rfl rfl Try.func16 (by kernel_rfl) rfl #[.slice A0 l0.length c0] rfl (by (try simp only [List.map_toArray, List.map_cons, List.map_nil]); first | done | rfl | (simp only [List.length_drop, List.length_take]; rfl)) ?_; (with_reducible refine (cutplaneref01_May.calls _ _ l0 false _ ?side1 ?side2 A32.out).mono ?_); (case side1 => repeat (first | exact (Kd.C_below HR0.out HB.out) | (with_reducible refine Kd.C_alloc ?_ _) | (with_reducible refine Kd.C_drewN ?_ _) | (with_reducible refine Kd.C_drew ?_))); (case side2 => exact HC0.out); rintro e w' ⟨rfl, ⟨nd, rfl⟩⟩; refine ⟨_, rfl, ?_⟩))
                    go_meet
                    case rel => exact ⟨_, (false), (by first | rfl | (simp; done) | (simp [*]; done)), H', ⟨by have := HJ3.out; have := HJ12.out; first | omega | exact Nat.le_refl _⟩, ⟨by (with_reducible repeat (first | apply Kd.R_alloc | apply Kd.R_drewN | apply Kd.R_drew)); exact HO_7.out⟩, ⟨by (with_reducible repeat (first | apply Kd.R_alloc | apply Kd.R_drewN | apply Kd.R_drew)); exact HO_8.out⟩, ⟨by repeat (first | (with_reducible first | exact HB.out | apply below_alloc | apply pw_below_drewN | apply below_drew1) | exact HB.out)⟩⟩
              case rest =>
                clear HC30
                try clear c1
                try clear c2
                try clear p2
                try clear c3
                try clear c6
                try clear c8
                try clear c12
                try clear c13
                try clear c14
                try clear c15
                try clear c16
                try clear c18
                try clear c18b0
                try clear c18b1
                try clear c18b2
                try clear c20
                try clear c28
                try clear c33
                try clear p2
                obtain ⟨kq, x11_29, rfl, HA, HJ29, HO_7, HO_8, HB⟩ := hcut
                cases kq with
                | zero => exact absurd HA.out (by simp [cutplanelaw01_NatSums.j2])
                | succ kj29 =>
                  have H := HA.out
                  clear HA
                  simp only [cutplanelaw01_NatSums.j2] at H
                  have HC34 := Aside0.mk H
                  clear H
                  go_upto_region 8 with (fail)
                  go_cut [76] (fun v76 wc => ∃ (kq : Nat) (x76_33 : Bool), v76 = .bool x76_33 ∧ Aside0 (cutplanelaw01_NatSums.j3 kq l0 l1 t255 t258 x76_33 = some r) ∧ Aside0 (kq ≤ kj29) ∧ Aside0 (Kd.R (Kd.int .u32) 42 wc w.heap.size (fun k_ => some k_ ≠ (v259 : Value).ownBlock) (.slice Ao31 t255.length co31) t255) ∧ Aside0 (Kd.R (Kd.int .u32) 42 wc w.heap.size (fun k_ => some k_ ≠ ((.slice Ao31 t255.length co31) : Value).ownBlock) v259 t258) ∧ Aside0 (Below w.heap.size w wc))
                  case first =>
                    have H := HC34.out
                    clear HC34
                    by_cases c35 : (t271 != x11_29) = true
                    · rw [if_pos c35] at H
                      have c35b0 : (t271 != x11_29) = true := c35
                      (try (have c35b1 : decide (t271 = x11_29) = false := by simpa using c35))
                      (try (have c35b2 : (t271 == x11_29) = false := by simpa using c35))
                      (try (have c35b3 : ¬ (t271 = x11_29) := by simpa using c35))
                      clear c35
                      (first | rw [c35b0] | (simp only [i64_w, i32_w]; rw [c35b0]) | skip)
                      as_aux_lemma =>
                        have H' := Aside0.mk H
                        clear H
                        go_wp2
                        go_meet
                        case rel => exact ⟨_, (true), (by first | rfl | (simp; done) | (simp [*]; done)), H', ⟨by have := HJ3.out; have := HJ12.out; have := HJ29.out; first | omega | exact Nat.le_refl _⟩, ⟨by (with_reducible repeat (first | apply Kd.R_alloc | apply Kd.R_drewN | apply Kd.R_drew)); exact HO_7.out⟩, ⟨by (with_reducible repeat (first | apply Kd.R_alloc | apply Kd.R_drewN | apply Kd.R_drew)); exact HO_8.out⟩, ⟨by repeat (first | (with_reducible first | exact HB.out | apply below_alloc | apply pw_below_drewN | apply below_drew1) | exact HB.out)⟩⟩
                    · rw [if_neg c35] at H
                      have c35b0 : (t271 != x11_29) = false := by simpa using c35
                      (try (have c35b1 : decide (t271 = x11_29) = true := by simpa using c35))
                      (try (have c35b2 : (t271 == x11_29) = true := by simpa using c35))
                      clear c35
                      (first | rw [c35b0] | (simp only [i64_w, i32_w]; rw [c35b0]) | skip)
                      by_cases c36 : x11_29 = true
                      · subst c36
                        have H1 : ((cutplaneref01_Of.f kj29 t270).bind fun t273 => ((cutplaneref01_Same.f kj29 t273 l0).bind fun t276 => (if t276 = true then (cutplanelaw01_NatSums.j3 kj29 l0 l1 t255 t258 false) else (cutplanelaw01_NatSums.j3 kj29 l0 l1 t255 t258 true)))) = some r := by rw [if_pos rfl] at H; exact H
                        clear H
                        have H := H1
                        clear H1
                        replace H := Option.bind_eq_some_iff.mp H
                        obtain ⟨t273, A370, H⟩ := H
                        replace H : ((cutplaneref01_Same.f kj29 t273 l0).bind fun t276 => (if t276 = true then (cutplanelaw01_NatSums.j3 kj29 l0 l1 t255 t258 false) else (cutplanelaw01_NatSums.j3 kj29 l0 l1 t255 t258 true))) = some r := H
                        have A37 := Aside0.mk A370
                        clear A370
                        replace H := Option.bind_eq_some_iff.mp H
                        obtain ⟨t276, A380, H⟩ := H
                        replace H : (if t276 = true then (cutplanelaw01_NatSums.j3 kj29 l0 l1 t255 t258 false) else (cutplanelaw01_NatSums.j3 kj29 l0 l1 t255 t258 true)) = some r := H
                        have A38 := Aside0.mk A380
                        clear A380
                        by_cases c39 : t276 = true
                        · subst c39
                          have H1 : (cutplanelaw01_NatSums.j3 kj29 l0 l1 t255 t258 false) = some r := by rw [if_pos rfl] at H; exact H
                          clear H
                          have H := H1
                          clear H1
                          as_aux_lemma =>
                            have H' := Aside0.mk H
                            clear H
                            go_wp2_with (first | (go_at_call 19; (with_reducible refine (cutplaneref01_Of.calls kj29 t270 t273 _ A37.out).mono ?_); rintro e w40 ⟨v274, rfl, ho0, hb⟩; have n0_ := Aside0.mk (Kd.R_elder' (by (with_reducible repeat (first | apply Kd.R_alloc | apply Kd.R_drewN | apply Kd.R_drew)); exact HO_7.out) (Kd.R_base ho0) hb); have n1_ := Aside0.mk (Kd.R_elder' (by (with_reducible repeat (first | apply Kd.R_alloc | apply Kd.R_drewN | apply Kd.R_drew)); exact HO_8.out) (Kd.R_base ho0) hb); have n2_ := Aside0.mk (Kd.R_lower (Kd.R_new' (Kd.R_new' ho0 (Kd.R_lt (by (with_reducible repeat (first | apply Kd.R_alloc | apply Kd.R_drewN | apply Kd.R_drew)); exact HO_7.out))) (Kd.R_lt (by (with_reducible repeat (first | apply Kd.R_alloc | apply Kd.R_drewN | apply Kd.R_drew)); exact HO_8.out))) (below_size (by repeat (first | (with_reducible first | exact HB.out | apply below_alloc | apply pw_below_drewN | apply below_drew1) | exact HB.out)))); have n3_ := Aside0.mk (below_step (by repeat (first | (with_reducible first | exact HB.out | apply below_alloc | apply pw_below_drewN | apply below_drew1) | exact HB.out)) hb); clear HO_7; clear HO_8; clear HB; have HO_7 := n0_; have HO_8 := n1_; have HO275 := n2_; have HB := n3_; clear n0_ n1_ n2_ n3_; (try clear hb); (try clear hb2); (try clear hk); (try clear hi); (try clear ho0); obtain ⟨Ao41, co41, eo41⟩ := Kd.R_slice HO275.out; subst eo41) | (go_at_call 17; (with_reducible refine (cutplaneref01_Same.calls kj29 _ _ t273 _ _ l0 true _ ?side1 ?side2 ?side3 ?side4 A38.out).mono ?_); (case side1 => repeat (first | exact (Kd.R_reads' HO275.out).2.2 | (with_reducible refine Kd.C_alloc ?_ _) | (with_reducible refine Kd.C_drewN ?_ _) | (with_reducible refine Kd.C_drew ?_))); (case side2 => exact (Kd.R_reads' HO275.out).2.1); (case side3 => repeat (first | exact (Kd.C_below HR0.out HB.out) | (with_reducible refine Kd.C_alloc ?_ _) | (with_reducible refine Kd.C_drewN ?_ _) | (with_reducible refine Kd.C_drew ?_))); (case side4 => exact HC0.out); rintro e w' ⟨rfl, ⟨nd, rfl⟩⟩))
                            go_meet
                            case rel => exact ⟨_, (false), (by first | rfl | (simp; done) | (simp [*]; done)), H', ⟨by have := HJ3.out; have := HJ12.out; have := HJ29.out; first | omega | exact Nat.le_refl _⟩, ⟨by (with_reducible repeat (first | apply Kd.R_alloc | apply Kd.R_drewN | apply Kd.R_drew)); exact Kd.R_mono HO_7.out (fun _ hk => hk.1)⟩, ⟨by (with_reducible repeat (first | apply Kd.R_alloc | apply Kd.R_drewN | apply Kd.R_drew)); exact Kd.R_mono HO_8.out (fun _ hk => hk.1)⟩, ⟨by repeat (first | (with_reducible first | exact HB.out | apply below_alloc | apply pw_below_drewN | apply below_drew1) | exact HB.out)⟩⟩
                        · replace c39 := Bool.eq_false_iff.mpr c39
                          subst c39
                          have H1 : (cutplanelaw01_NatSums.j3 kj29 l0 l1 t255 t258 true) = some r := by rw [if_neg (show ¬ (false = true) by decide)] at H; exact H
                          clear H
                          have H := H1
                          clear H1
                          as_aux_lemma =>
                            have H' := Aside0.mk H
                            clear H
                            go_wp2_with (first | (go_at_call 19; (with_reducible refine (cutplaneref01_Of.calls kj29 t270 t273 _ A37.out).mono ?_); rintro e w42 ⟨v274, rfl, ho0, hb⟩; have n0_ := Aside0.mk (Kd.R_elder' (by (with_reducible repeat (first | apply Kd.R_alloc | apply Kd.R_drewN | apply Kd.R_drew)); exact HO_7.out) (Kd.R_base ho0) hb); have n1_ := Aside0.mk (Kd.R_elder' (by (with_reducible repeat (first | apply Kd.R_alloc | apply Kd.R_drewN | apply Kd.R_drew)); exact HO_8.out) (Kd.R_base ho0) hb); have n2_ := Aside0.mk (Kd.R_lower (Kd.R_new' (Kd.R_new' ho0 (Kd.R_lt (by (with_reducible repeat (first | apply Kd.R_alloc | apply Kd.R_drewN | apply Kd.R_drew)); exact HO_7.out))) (Kd.R_lt (by (with_reducible repeat (first | apply Kd.R_alloc | apply Kd.R_drewN | apply Kd.R_drew)); exact HO_8.out))) (below_size (by repeat (first | (with_reducible first | exact HB.out | apply below_alloc | apply pw_below_drewN | apply below_drew1) | exact HB.out)))); have n3_ := Aside0.mk (below_step (by repeat (first | (with_reducible first | exact HB.out | apply below_alloc | apply pw_below_drewN | apply below_drew1) | exact HB.out)) hb); clear HO_7; clear HO_8; clear HB; have HO_7 := n0_; have HO_8 := n1_; have HO275 := n2_; have HB := n3_; clear n0_ n1_ n2_ n3_; (try clear hb); (try clear hb2); (try clear hk); (try clear hi); (try clear ho0); obtain ⟨Ao43, co43, eo43⟩ := Kd.R_slice HO275.out; subst eo43) | (go_at_call 17; (with_reducible refine (cutplaneref01_Same.calls kj29 _ _ t273 _ _ l0 false _ ?side1 ?side2 ?side3 ?side4 A38.out).mono ?_); (case side1 => repeat (first | exact (Kd.R_reads' HO275.out).2.2 | (with_reducible refine Kd.C_alloc ?_ _) | (with_reducible refine Kd.C_drewN ?_ _) | (with_reducible refine Kd.C_drew ?_))); (case side2 => exact (Kd.R_reads' HO275.out).2.1); (case side3 => repeat (first | exact (Kd.C_below HR0.out HB.out) | (with_reducible refine Kd.C_alloc ?_ _) | (with_reducible refine Kd.C_drewN ?_ _) | (with_reducible refine Kd.C_drew ?_))); (case side4 => exact HC0.out); rintro e w' ⟨rfl, ⟨nd, rfl⟩⟩))
                            go_meet
                            case rel => exact ⟨_, (true), (by first | rfl | (simp; done) | (simp [*]; done)), H', ⟨by have := HJ3.out; have := HJ12.out; have := HJ29.out; first | omega | exact Nat.le_refl _⟩, ⟨by (with_reducible repeat (first | apply Kd.R_alloc | apply Kd.R_drewN | apply Kd.R_drew)); exact Kd.R_mono HO_7.out (fun _ hk => hk.1)⟩, ⟨by (with_reducible repeat (first | apply Kd.R_alloc | apply Kd.R_drewN | apply Kd.R_drew)); exact Kd.R_mono HO_8.out (fun _ hk => hk.1)⟩, ⟨by repeat (first | (with_reducible first | exact HB.out | apply below_alloc | apply pw_below_drewN | apply below_drew1) | exact HB.out)⟩⟩
                      · replace c36 := Bool.eq_false_iff.mpr c36
                        subst c36
                        have H1 : (cutplanelaw01_NatSums.j3 kj29 l0 l1 t255 t258 (t270 != 0)) = some r := by rw [if_neg (show ¬ (false = true) by decide)] at H; exact H
                        clear H
                        have H := H1
                        clear H1
                        as_aux_lemma =>
                          have H' := Aside0.mk H
                          clear H
                          go_wp2
                          go_meet
                          case rel => exact ⟨_, ((t270 != 0)), (by first | rfl | (simp; done) | (simp [*]; done)), H', ⟨by have := HJ3.out; have := HJ12.out; have := HJ29.out; first | omega | exact Nat.le_refl _⟩, ⟨by (with_reducible repeat (first | apply Kd.R_alloc | apply Kd.R_drewN | apply Kd.R_drew)); exact HO_7.out⟩, ⟨by (with_reducible repeat (first | apply Kd.R_alloc | apply Kd.R_drewN | apply Kd.R_drew)); exact HO_8.out⟩, ⟨by repeat (first | (with_reducible first | exact HB.out | apply below_alloc | apply pw_below_drewN | apply below_drew1) | exact HB.out)⟩⟩
                  case rest =>
                    clear HC34
                    try clear c1
                    try clear c2
                    try clear p2
                    try clear c3
                    try clear c6
                    try clear c8
                    try clear c12
                    try clear c13
                    try clear c14
                    try clear c15
                    try clear c16
                    try clear c18
                    try clear c18b0
                    try clear c18b1
                    try clear c18b2
                    try clear c20
                    try clear c28
                    try clear c33
                    try clear c35
                    try clear c35b0
                    try clear c35b1
                    try clear c35b2
                    try clear c36
                    try clear c39
                    try clear p2
                    obtain ⟨kq, x76_33, rfl, HA, HJ33, HO_7, HO_8, HB⟩ := hcut
                    cases kq with
                    | zero => exact absurd HA.out (by simp [cutplanelaw01_NatSums.j3])
                    | succ kj33 =>
                      have H := HA.out
                      clear HA
                      simp only [cutplanelaw01_NatSums.j3] at H
                      by_cases c44 : x76_33 = true
                      · subst c44
                        have H1 : (some false) = some r := by rw [if_pos rfl] at H; exact H
                        clear H
                        have H := H1
                        clear H1
                        as_aux_lemma =>
                          obtain rfl := Option.some.inj H
                          go_wp2
                          go_ret
                          exact ⟨by first | rfl | (simp [errW_none, errW_some] <;> rfl) | (simp [*, errW_none, errW_some] <;> rfl), by repeat (first | (with_reducible first | exact HB.out | apply below_alloc | apply pw_below_drewN | apply below_drew1) | exact HB.out)⟩
                      · replace c44 := Bool.eq_false_iff.mpr c44
                        subst c44
                        have H1 : ((nat_Cmp.f kj33 t255 t258).bind fun bt277 => ((nat_Add.f kj33 t255 t258).bind fun bt279 => ((nat_Sub.f kj33 t255 t258).bind fun bt283 => ((cutplaneref01_Same.f kj33 t255 l0).bind fun t287 => (if t287 = true then ((cutplaneref01_Same.f kj33 t258 l1).bind fun t288 => (cutplanelaw01_NatSums.j4 kj33 l0 l1 t255 t258 bt277.1 bt277.2 bt279.1 bt279.2 bt283.1 bt283.2 (!t288))) else (cutplanelaw01_NatSums.j4 kj33 l0 l1 t255 t258 bt277.1 bt277.2 bt279.1 bt279.2 bt283.1 bt283.2 true)))))) = some r := by rw [if_neg (show ¬ (false = true) by decide)] at H; exact H
                        clear H
                        have H := H1
                        clear H1
                        replace H := Option.bind_eq_some_iff.mp H
                        obtain ⟨⟨t277, t278⟩, A450, H⟩ := H
                        replace H : ((nat_Add.f kj33 t255 t258).bind fun bt279 => ((nat_Sub.f kj33 t255 t258).bind fun bt283 => ((cutplaneref01_Same.f kj33 t255 l0).bind fun t287 => (if t287 = true then ((cutplaneref01_Same.f kj33 t258 l1).bind fun t288 => (cutplanelaw01_NatSums.j4 kj33 l0 l1 t255 t258 t277 t278 bt279.1 bt279.2 bt283.1 bt283.2 (!t288))) else (cutplanelaw01_NatSums.j4 kj33 l0 l1 t255 t258 t277 t278 bt279.1 bt279.2 bt283.1 bt283.2 true))))) = some r := H
                        have A45 := Aside0.mk A450
                        clear A450
                        replace H := Option.bind_eq_some_iff.mp H
                        obtain ⟨⟨t279, t282⟩, A460, H⟩ := H
                        replace H : ((nat_Sub.f kj33 t255 t258).bind fun bt283 => ((cutplaneref01_Same.f kj33 t255 l0).bind fun t287 => (if t287 = true then ((cutplaneref01_Same.f kj33 t258 l1).bind fun t288 => (cutplanelaw01_NatSums.j4 kj33 l0 l1 t255 t258 t277 t278 t279 t282 bt283.1 bt283.2 (!t288))) else (cutplanelaw01_NatSums.j4 kj33 l0 l1 t255 t258 t277 t278 t279 t282 bt283.1 bt283.2 true)))) = some r := H
                        have A46 := Aside0.mk A460
                        clear A460
                        replace H := Option.bind_eq_some_iff.mp H
                        obtain ⟨⟨t283, t286⟩, A470, H⟩ := H
                        replace H : ((cutplaneref01_Same.f kj33 t255 l0).bind fun t287 => (if t287 = true then ((cutplaneref01_Same.f kj33 t258 l1).bind fun t288 => (cutplanelaw01_NatSums.j4 kj33 l0 l1 t255 t258 t277 t278 t279 t282 t283 t286 (!t288))) else (cutplanelaw01_NatSums.j4 kj33 l0 l1 t255 t258 t277 t278 t279 t282 t283 t286 true))) = some r := H
                        have A47 := Aside0.mk A470
                        clear A470
                        have HC48 := Aside0.mk H
                        clear H
                        obtain ⟨Ao49, co49, eo49⟩ := Kd.R_slice HO_8.out
                        subst eo49
                        go_upto_region 13 with (first | ((with_reducible refine gate_callee (f := 21) rfl ?_); refine goesL_ (some 80) rfl rfl Try.func21 (by kernel_rfl) rfl #[.slice Ao31 t255.length co31, .slice Ao49 t258.length co49] rfl (by (try simp only [List.map_toArray, List.map_cons, List.map_nil]); first | done | rfl | (simp only [List.length_drop, List.length_take]; rfl)) ?_; (with_reducible refine (nat_Cmp.calls kj33 (fun k_ => some k_ = (.slice Ao31 t255.length co31 : Value).ownBlock) _ _ t255 (fun k_ => some k_ = (.slice Ao49 t258.length co49 : Value).ownBlock) _ _ t258 t277 t278 _ ?side1 ?side2 A45.out).mono ?_); (case side1 => exact Kd.R_V (Kd.R_tight rfl (HO_7.out))); (case side2 => exact Kd.R_V (Kd.R_tight rfl (HO_8.out))); rintro e w50 ⟨rfl, hb⟩; refine ⟨_, rfl, ?_⟩; have n0_ := Aside0.mk (Kd.R_below (by (with_reducible repeat (first | apply Kd.R_alloc | apply Kd.R_drewN | apply Kd.R_drew)); exact HO_7.out) hb); have n1_ := Aside0.mk (Kd.R_below (by (with_reducible repeat (first | apply Kd.R_alloc | apply Kd.R_drewN | apply Kd.R_drew)); exact HO_8.out) hb); have n2_ := Aside0.mk (below_step (by repeat (first | (with_reducible first | exact HB.out | apply below_alloc | apply pw_below_drewN | apply below_drew1) | exact HB.out)) hb); clear HO_7; clear HO_8; clear HB; have HO_7 := n0_; have HO_8 := n1_; have HB := n2_; clear n0_ n1_ n2_; (try clear hb); (try clear hb2); (try clear hk); (try clear hi)) | ((with_reducible refine gate_callee (f := 22) rfl ?_); refine goesL_ (some 86) rfl rfl Try.func22 (by kernel_rfl) rfl #[.slice Ao31 t255.length co31, .slice Ao49 t258.length co49] rfl (by (try simp only [List.map_toArray, List.map_cons, List.map_nil]); first | done | rfl | (simp only [List.length_drop, List.length_take]; rfl)) ?_; (with_reducible refine (nat_Add.calls kj33 (fun k_ => some k_ = (.slice Ao31 t255.length co31 : Value).ownBlock) _ _ t255 (fun k_ => some k_ = (.slice Ao49 t258.length co49 : Value).ownBlock) _ _ t258 t279 t282 _ ?side1 ?side2 A46.out).mono ?_); (case side1 => exact Kd.R_V (Kd.R_tight rfl (HO_7.out))); (case side2 => exact Kd.R_V (Kd.R_tight rfl (HO_8.out))); rintro e w51 ⟨v280, rfl, ho0, hb⟩; refine ⟨_, rfl, ?_⟩; have n0_ := Aside0.mk (Kd.R_elder' (by (with_reducible repeat (first | apply Kd.R_alloc | apply Kd.R_drewN | apply Kd.R_drew)); exact HO_7.out) (Kd.R_base ho0) hb); have n1_ := Aside0.mk (Kd.R_elder' (by (with_reducible repeat (first | apply Kd.R_alloc | apply Kd.R_drewN | apply Kd.R_drew)); exact HO_8.out) (Kd.R_base ho0) hb); have n2_ := Aside0.mk (Kd.R_lower (Kd.R_new' (Kd.R_new' (Kd.R_mono (ok' := fun k_ => True) ho0 (fun _ hk_ => trivial)) (Kd.R_lt (by (with_reducible repeat (first | apply Kd.R_alloc | apply Kd.R_drewN | apply Kd.R_drew)); exact HO_7.out))) (Kd.R_lt (by (with_reducible repeat (first | apply Kd.R_alloc | apply Kd.R_drewN | apply Kd.R_drew)); exact HO_8.out))) (below_size (by repeat (first | (with_reducible first | exact HB.out | apply below_alloc | apply pw_below_drewN | apply below_drew1) | exact HB.out)))); have n3_ := Aside0.mk (below_step (by repeat (first | (with_reducible first | exact HB.out | apply below_alloc | apply pw_below_drewN | apply below_drew1) | exact HB.out)) hb); clear HO_7; clear HO_8; clear HB; have HO_7 := n0_; have HO_8 := n1_; have HO281 := n2_; have HB := n3_; clear n0_ n1_ n2_ n3_; (try clear hb); (try clear hb2); (try clear hk); (try clear hi); (try clear ho0)) | ((with_reducible refine gate_callee (f := 23) rfl ?_); refine goesL_ (some 92) rfl rfl Try.func23 (by kernel_rfl) rfl #[.slice Ao31 t255.length co31, .slice Ao49 t258.length co49] rfl (by (try simp only [List.map_toArray, List.map_cons, List.map_nil]); first | done | rfl | (simp only [List.length_drop, List.length_take]; rfl)) ?_; (with_reducible refine (nat_Sub.calls kj33 (fun k_ => some k_ = (.slice Ao31 t255.length co31 : Value).ownBlock) _ _ t255 (fun k_ => some k_ = (.slice Ao49 t258.length co49 : Value).ownBlock) _ _ t258 t283 t286 _ ?side1 ?side2 A47.out).mono ?_); (case side1 => exact Kd.R_V (Kd.R_tight rfl (HO_7.out))); (case side2 => exact Kd.R_V (Kd.R_tight rfl (HO_8.out))); rintro e w52 ⟨v284, rfl, ho0, hb⟩; refine ⟨_, rfl, ?_⟩; have n0_ := Aside0.mk (Kd.R_elder' (by (with_reducible repeat (first | apply Kd.R_alloc | apply Kd.R_drewN | apply Kd.R_drew)); exact HO_7.out) (Kd.R_base ho0) hb); have n1_ := Aside0.mk (Kd.R_elder' (by (with_reducible repeat (first | apply Kd.R_alloc | apply Kd.R_drewN | apply Kd.R_drew)); exact HO_8.out) (Kd.R_base ho0) hb); have n2_ := Aside0.mk (Kd.R_elder' (by (with_reducible repeat (first | apply Kd.R_alloc | apply Kd.R_drewN | apply Kd.R_drew)); exact HO281.out) (Kd.R_base ho0) hb); have n3_ := Aside0.mk (Kd.R_lower (Kd.R_new' (Kd.R_new' (Kd.R_new' (Kd.R_mono (ok' := fun k_ => True) ho0 (fun _ hk_ => trivial)) (Kd.R_lt (by (with_reducible repeat (first | apply Kd.R_alloc | apply Kd.R_drewN | apply Kd.R_drew)); exact HO_7.out))) (Kd.R_lt (by (with_reducible repeat (first | apply Kd.R_alloc | apply Kd.R_drewN | apply Kd.R_drew)); exact HO_8.out))) (Kd.R_lt (by (with_reducible repeat (first | apply Kd.R_alloc | apply Kd.R_drewN | apply Kd.R_drew)); exact HO281.out))) (below_size (by repeat (first | (with_reducible first | exact HB.out | apply below_alloc | apply pw_below_drewN | apply below_drew1) | exact HB.out)))); have n4_ := Aside0.mk (below_step (by repeat (first | (with_reducible first | exact HB.out | apply below_alloc | apply pw_below_drewN | apply below_drew1) | exact HB.out)) hb); clear HO_7; clear HO_8; clear HO281; clear HB; have HO_7 := n0_; have HO_8 := n1_; have HO281 := n2_; have HO285 := n3_; have HB := n4_; clear n0_ n1_ n2_ n3_ n4_; (try clear hb); (try clear hb2); (try clear hk); (try clear hi); (try clear ho0)))
                        (try simp only [Act.put, List.setIfInBounds_toArray, List.set_cons_zero, List.set_cons_succ])
                        go_cut [104] (fun v104 wc => ∃ (kq : Nat) (x104_47 : Bool), v104 = .bool x104_47 ∧ Aside0 (cutplanelaw01_NatSums.j4 kq l0 l1 t255 t258 t277 t278 t279 t282 t283 t286 x104_47 = some r) ∧ Aside0 (kq ≤ kj33) ∧ Aside0 (Kd.R (Kd.int .u32) 42 wc w.heap.size (fun k_ => some k_ ≠ ((.slice Ao49 t258.length co49) : Value).ownBlock ∧ some k_ ≠ (v280 : Value).ownBlock ∧ some k_ ≠ (v284 : Value).ownBlock) (.slice Ao31 t255.length co31) t255) ∧ Aside0 (Kd.R (Kd.int .u32) 42 wc w.heap.size (fun k_ => some k_ ≠ ((.slice Ao31 t255.length co31) : Value).ownBlock ∧ some k_ ≠ (v280 : Value).ownBlock ∧ some k_ ≠ (v284 : Value).ownBlock) (.slice Ao49 t258.length co49) t258) ∧ Aside0 (Kd.R (Kd.int .u32) 42 wc w.heap.size (fun k_ => some k_ ≠ ((.slice Ao31 t255.length co31) : Value).ownBlock ∧ some k_ ≠ ((.slice Ao49 t258.length co49) : Value).ownBlock ∧ some k_ ≠ (v284 : Value).ownBlock) v280 t279) ∧ Aside0 (Kd.R (Kd.int .u32) 42 wc w.heap.size (fun k_ => some k_ ≠ ((.slice Ao31 t255.length co31) : Value).ownBlock ∧ some k_ ≠ ((.slice Ao49 t258.length co49) : Value).ownBlock ∧ some k_ ≠ (v280 : Value).ownBlock) v284 t283) ∧ Aside0 (Below w.heap.size w wc))
                        case first =>
                          have H := HC48.out
                          clear HC48
                          replace H := Option.bind_eq_some_iff.mp H
                          obtain ⟨t287, A530, H⟩ := H
                          replace H : (if t287 = true then ((cutplaneref01_Same.f kj33 t258 l1).bind fun t288 => (cutplanelaw01_NatSums.j4 kj33 l0 l1 t255 t258 t277 t278 t279 t282 t283 t286 (!t288))) else (cutplanelaw01_NatSums.j4 kj33 l0 l1 t255 t258 t277 t278 t279 t282 t283 t286 true)) = some r := H
                          have A53 := Aside0.mk A530
                          clear A530
                          by_cases c54 : t287 = true
                          · subst c54
                            have H1 : ((cutplaneref01_Same.f kj33 t258 l1).bind fun t288 => (cutplanelaw01_NatSums.j4 kj33 l0 l1 t255 t258 t277 t278 t279 t282 t283 t286 (!t288))) = some r := by rw [if_pos rfl] at H; exact H
                            clear H
                            have H := H1
                            clear H1
                            replace H := Option.bind_eq_some_iff.mp H
                            obtain ⟨t288, A550, H⟩ := H
                            replace H : (cutplanelaw01_NatSums.j4 kj33 l0 l1 t255 t258 t277 t278 t279 t282 t283 t286 (!t288)) = some r := H
                            have A55 := Aside0.mk A550
                            clear A550
                            as_aux_lemma =>
                              have H' := Aside0.mk H
                              clear H
                              go_wp2_with (first | ((with_reducible refine gate_callee (f := 17) rfl ?_); refine goesL_ (some 97) rfl rfl Try.func17 (by kernel_rfl) rfl #[.slice Ao31 t255.length co31, .slice A0 l0.length c0] rfl (by (try simp only [List.map_toArray, List.map_cons, List.map_nil]); first | done | rfl | (simp only [List.length_drop, List.length_take]; rfl)) ?_; (with_reducible refine (cutplaneref01_Same.calls kj33 _ _ t255 _ _ l0 true _ ?side1 ?side2 ?side3 ?side4 A53.out).mono ?_); (case side1 => repeat (first | exact (Kd.R_reads' HO_7.out).2.2 | (with_reducible refine Kd.C_alloc ?_ _) | (with_reducible refine Kd.C_drewN ?_ _) | (with_reducible refine Kd.C_drew ?_))); (case side2 => exact (Kd.R_reads' HO_7.out).2.1); (case side3 => repeat (first | exact (Kd.C_below HR0.out HB.out) | (with_reducible refine Kd.C_alloc ?_ _) | (with_reducible refine Kd.C_drewN ?_ _) | (with_reducible refine Kd.C_drew ?_))); (case side4 => exact HC0.out); rintro e w' ⟨rfl, ⟨nd, rfl⟩⟩; refine ⟨_, rfl, ?_⟩) | (go_at_call 17; (with_reducible refine (cutplaneref01_Same.calls kj33 _ _ t258 _ _ l1 t288 _ ?side1 ?side2 ?side3 ?side4 A55.out).mono ?_); (case side1 => repeat (first | exact (Kd.R_reads' HO_8.out).2.2 | (with_reducible refine Kd.C_alloc ?_ _) | (with_reducible refine Kd.C_drewN ?_ _) | (with_reducible refine Kd.C_drew ?_))); (case side2 => exact (Kd.R_reads' HO_8.out).2.1); (case side3 => repeat (first | exact (Kd.C_below HR1.out (by repeat (first | (with_reducible first | exact HB.out | apply below_alloc | apply pw_below_drewN | apply below_drew1) | exact HB.out))) | (with_reducible refine Kd.C_alloc ?_ _) | (with_reducible refine Kd.C_drewN ?_ _) | (with_reducible refine Kd.C_drew ?_))); (case side4 => exact HC1.out); rintro e w' ⟨rfl, ⟨nd, rfl⟩⟩))
                              go_meet
                              case rel => exact ⟨_, (!t288), (by first | rfl | (simp; done) | (simp [*]; done)), H', ⟨by have := HJ3.out; have := HJ12.out; have := HJ29.out; have := HJ33.out; first | omega | exact Nat.le_refl _⟩, ⟨by (with_reducible repeat (first | apply Kd.R_alloc | apply Kd.R_drewN | apply Kd.R_drew)); exact Kd.R_mono HO_7.out (fun _ hk => ⟨hk.1.1, ⟨hk.1.2, hk.2⟩⟩)⟩, ⟨by (with_reducible repeat (first | apply Kd.R_alloc | apply Kd.R_drewN | apply Kd.R_drew)); exact Kd.R_mono HO_8.out (fun _ hk => ⟨hk.1.1, ⟨hk.1.2, hk.2⟩⟩)⟩, ⟨by (with_reducible repeat (first | apply Kd.R_alloc | apply Kd.R_drewN | apply Kd.R_drew)); exact Kd.R_mono HO281.out (fun _ hk => ⟨hk.1.1.2, ⟨hk.1.2, hk.2⟩⟩)⟩, ⟨by (with_reducible repeat (first | apply Kd.R_alloc | apply Kd.R_drewN | apply Kd.R_drew)); exact Kd.R_mono HO285.out (fun _ hk => ⟨hk.1.1.2, ⟨hk.1.2, hk.2⟩⟩)⟩, ⟨by repeat (first | (with_reducible first | exact HB.out | apply below_alloc | apply pw_below_drewN | apply below_drew1) | exact HB.out)⟩⟩
                          · replace c54 := Bool.eq_false_iff.mpr c54
                            subst c54
                            have H1 : (cutplanelaw01_NatSums.j4 kj33 l0 l1 t255 t258 t277 t278 t279 t282 t283 t286 true) = some r := by rw [if_neg (show ¬ (false = true) by decide)] at H; exact H
                            clear H
                            have H := H1
                            clear H1
                            as_aux_lemma =>
                              have H' := Aside0.mk H
                              clear H
                              go_wp2_with (first | ((with_reducible refine gate_callee (f := 17) rfl ?_); refine goesL_ (some 97) rfl rfl Try.func17 (by kernel_rfl) rfl #[.slice Ao31 t255.length co31, .slice A0 l0.length c0] rfl (by (try simp only [List.map_toArray, List.map_cons, List.map_nil]); first | done | rfl | (simp only [List.length_drop, List.length_take]; rfl)) ?_; (with_reducible refine (cutplaneref01_Same.calls kj33 _ _ t255 _ _ l0 false _ ?side1 ?side2 ?side3 ?side4 A53.out).mono ?_); (case side1 => repeat (first | exact (Kd.R_reads' HO_7.out).2.2 | (with_reducible refine Kd.C_alloc ?_ _) | (with_reducible refine Kd.C_drewN ?_ _) | (with_reducible refine Kd.C_drew ?_))); (case side2 => exact (Kd.R_reads' HO_7.out).2.1); (case side3 => repeat (first | exact (Kd.C_below HR0.out HB.out) | (with_reducible refine Kd.C_alloc ?_ _) | (with_reducible refine Kd.C_drewN ?_ _) | (with_reducible refine Kd.C_drew ?_))); (case side4 => exact HC0.out); rintro e w' ⟨rfl, ⟨nd, rfl⟩⟩; refine ⟨_, rfl, ?_⟩))
                              go_meet
                              case rel => exact ⟨_, (true), (by first | rfl | (simp; done) | (simp [*]; done)), H', ⟨by have := HJ3.out; have := HJ12.out; have := HJ29.out; have := HJ33.out; first | omega | exact Nat.le_refl _⟩, ⟨by (with_reducible repeat (first | apply Kd.R_alloc | apply Kd.R_drewN | apply Kd.R_drew)); exact Kd.R_mono HO_7.out (fun _ hk => ⟨hk.1.1, ⟨hk.1.2, hk.2⟩⟩)⟩, ⟨by (with_reducible repeat (first | apply Kd.R_alloc | apply Kd.R_drewN | apply Kd.R_drew)); exact Kd.R_mono HO_8.out (fun _ hk => ⟨hk.1.1, ⟨hk.1.2, hk.2⟩⟩)⟩, ⟨by (with_reducible repeat (first | apply Kd.R_alloc | apply Kd.R_drewN | apply Kd.R_drew)); exact Kd.R_mono HO281.out (fun _ hk => ⟨hk.1.1.2, ⟨hk.1.2, hk.2⟩⟩)⟩, ⟨by (with_reducible repeat (first | apply Kd.R_alloc | apply Kd.R_drewN | apply Kd.R_drew)); exact Kd.R_mono HO285.out (fun _ hk => ⟨hk.1.1.2, ⟨hk.1.2, hk.2⟩⟩)⟩, ⟨by repeat (first | (with_reducible first | exact HB.out | apply below_alloc | apply pw_below_drewN | apply below_drew1) | exact HB.out)⟩⟩
                        case rest =>
                          clear HC48
                          try clear c1
                          try clear c2
                          try clear p2
                          try clear c3
                          try clear c4
                          try clear c5
                          try clear c6
                          try clear c8
                          try clear c12
                          try clear c13
                          try clear c14
                          try clear c15
                          try clear c16
                          try clear c17
                          try clear c18
                          try clear c18b0
                          try clear c18b1
                          try clear c18b2
                          try clear c20
                          try clear c21
                          try clear c22
                          try clear c23
                          try clear c28
                          try clear c33
                          try clear c35
                          try clear c35b0
                          try clear c35b1
                          try clear c35b2
                          try clear c36
                          try clear c39
                          try clear c44
                          try clear c54
                          try clear p2
                          obtain ⟨kq, x104_47, rfl, HA, HJ47, HO_7, HO_8, HO_14, HO_16, HB⟩ := hcut
                          cases kq with
                          | zero => exact absurd HA.out (by simp [cutplanelaw01_NatSums.j4])
                          | succ kj47 =>
                            have H := HA.out
                            clear HA
                            simp only [cutplanelaw01_NatSums.j4] at H
                            by_cases c56 : x104_47 = true
                            · subst c56
                              have H1 : (some false) = some r := by rw [if_pos rfl] at H; exact H
                              clear H
                              have H := H1
                              clear H1
                              as_aux_lemma =>
                                obtain rfl := Option.some.inj H
                                go_wp2
                                go_ret
                                exact ⟨by first | rfl | (simp [errW_none, errW_some] <;> rfl) | (simp [*, errW_none, errW_some] <;> rfl), by repeat (first | (with_reducible first | exact HB.out | apply below_alloc | apply pw_below_drewN | apply below_drew1) | exact HB.out)⟩
                            · replace c56 := Bool.eq_false_iff.mpr c56
                              subst c56
                              have H1 : ((cutplaneref01_May.f l0).bind fun t289 => (if t289 = true then ((cutplaneref01_May.f l1).bind fun t290 => (cutplanelaw01_NatSums.j5 kj47 l0 l1 t255 t258 t277 t278 t279 t282 t283 t286 (!t290))) else (cutplanelaw01_NatSums.j5 kj47 l0 l1 t255 t258 t277 t278 t279 t282 t283 t286 true))) = some r := by rw [if_neg (show ¬ (false = true) by decide)] at H; exact H
                              clear H
                              have H := H1
                              clear H1
                              have HC57 := Aside0.mk H
                              clear H
                              go_upto_region 15 with (fail)
                              go_cut [112] (fun v112 wc => ∃ (kq : Nat) (x112_56 : Bool), v112 = .bool x112_56 ∧ Aside0 (cutplanelaw01_NatSums.j5 kq l0 l1 t255 t258 t277 t278 t279 t282 t283 t286 x112_56 = some r) ∧ Aside0 (kq ≤ kj47) ∧ Aside0 (Kd.R (Kd.int .u32) 42 wc w.heap.size (fun k_ => some k_ ≠ ((.slice Ao49 t258.length co49) : Value).ownBlock ∧ some k_ ≠ (v280 : Value).ownBlock ∧ some k_ ≠ (v284 : Value).ownBlock) (.slice Ao31 t255.length co31) t255) ∧ Aside0 (Kd.R (Kd.int .u32) 42 wc w.heap.size (fun k_ => some k_ ≠ ((.slice Ao31 t255.length co31) : Value).ownBlock ∧ some k_ ≠ (v280 : Value).ownBlock ∧ some k_ ≠ (v284 : Value).ownBlock) (.slice Ao49 t258.length co49) t258) ∧ Aside0 (Kd.R (Kd.int .u32) 42 wc w.heap.size (fun k_ => some k_ ≠ ((.slice Ao31 t255.length co31) : Value).ownBlock ∧ some k_ ≠ ((.slice Ao49 t258.length co49) : Value).ownBlock ∧ some k_ ≠ (v284 : Value).ownBlock) v280 t279) ∧ Aside0 (Kd.R (Kd.int .u32) 42 wc w.heap.size (fun k_ => some k_ ≠ ((.slice Ao31 t255.length co31) : Value).ownBlock ∧ some k_ ≠ ((.slice Ao49 t258.length co49) : Value).ownBlock ∧ some k_ ≠ (v280 : Value).ownBlock) v284 t283) ∧ Aside0 (Below w.heap.size w wc))
                              case first =>
                                have H := HC57.out
                                clear HC57
                                replace H := Option.bind_eq_some_iff.mp H
                                obtain ⟨t289, A580, H⟩ := H
                                replace H : (if t289 = true then ((cutplaneref01_May.f l1).bind fun t290 => (cutplanelaw01_NatSums.j5 kj47 l0 l1 t255 t258 t277 t278 t279 t282 t283 t286 (!t290))) else (cutplanelaw01_NatSums.j5 kj47 l0 l1 t255 t258 t277 t278 t279 t282 t283 t286 true)) = some r := H
                                have A58 := Aside0.mk A580
                                clear A580
                                by_cases c59 : t289 = true
                                · subst c59
                                  have H1 : ((cutplaneref01_May.f l1).bind fun t290 => (cutplanelaw01_NatSums.j5 kj47 l0 l1 t255 t258 t277 t278 t279 t282 t283 t286 (!t290))) = some r := by rw [if_pos rfl] at H; exact H
                                  clear H
                                  have H := H1
                                  clear H1
                                  replace H := Option.bind_eq_some_iff.mp H
                                  obtain ⟨t290, A600, H⟩ := H
                                  replace H : (cutplanelaw01_NatSums.j5 kj47 l0 l1 t255 t258 t277 t278 t279 t282 t283 t286 (!t290)) = some r := H
                                  have A60 := Aside0.mk A600
                                  clear A600
                                  as_aux_lemma =>
                                    have H' := Aside0.mk H
                                    clear H
                                    go_wp2_with (first | ((with_reducible refine gate_callee (f := 16) rfl ?_); refine goesL_ (some 106) rfl rfl Try.func16 (by kernel_rfl) rfl #[.slice A0 l0.length c0] rfl (by (try simp only [List.map_toArray, List.map_cons, List.map_nil]); first | done | rfl | (simp only [List.length_drop, List.length_take]; rfl)) ?_; (with_reducible refine (cutplaneref01_May.calls _ _ l0 true _ ?side1 ?side2 A58.out).mono ?_); (case side1 => repeat (first | exact (Kd.C_below HR0.out HB.out) | (with_reducible refine Kd.C_alloc ?_ _) | (with_reducible refine Kd.C_drewN ?_ _) | (with_reducible refine Kd.C_drew ?_))); (case side2 => exact HC0.out); rintro e w' ⟨rfl, ⟨nd, rfl⟩⟩; refine ⟨_, rfl, ?_⟩) | (go_at_call 16; (with_reducible refine (cutplaneref01_May.calls _ _ l1 t290 _ ?side1 ?side2 A60.out).mono ?_); (case side1 => repeat (first | exact (Kd.C_below HR1.out (by repeat (first | (with_reducible first | exact HB.out | apply below_alloc | apply pw_below_drewN | apply below_drew1) | exact HB.out))) | (with_reducible refine Kd.C_alloc ?_ _) | (with_reducible refine Kd.C_drewN ?_ _) | (with_reducible refine Kd.C_drew ?_))); (case side2 => exact HC1.out); rintro e w' ⟨rfl, ⟨nd, rfl⟩⟩))
                                    go_meet
                                    case rel => exact ⟨_, (!t290), (by first | rfl | (simp; done) | (simp [*]; done)), H', ⟨by have := HJ3.out; have := HJ12.out; have := HJ29.out; have := HJ33.out; have := HJ47.out; first | omega | exact Nat.le_refl _⟩, ⟨by (with_reducible repeat (first | apply Kd.R_alloc | apply Kd.R_drewN | apply Kd.R_drew)); exact HO_7.out⟩, ⟨by (with_reducible repeat (first | apply Kd.R_alloc | apply Kd.R_drewN | apply Kd.R_drew)); exact HO_8.out⟩, ⟨by (with_reducible repeat (first | apply Kd.R_alloc | apply Kd.R_drewN | apply Kd.R_drew)); exact HO_14.out⟩, ⟨by (with_reducible repeat (first | apply Kd.R_alloc | apply Kd.R_drewN | apply Kd.R_drew)); exact HO_16.out⟩, ⟨by repeat (first | (with_reducible first | exact HB.out | apply below_alloc | apply pw_below_drewN | apply below_drew1) | exact HB.out)⟩⟩
                                · replace c59 := Bool.eq_false_iff.mpr c59
                                  subst c59
                                  have H1 : (cutplanelaw01_NatSums.j5 kj47 l0 l1 t255 t258 t277 t278 t279 t282 t283 t286 true) = some r := by rw [if_neg (show ¬ (false = true) by decide)] at H; exact H
                                  clear H
                                  have H := H1
                                  clear H1
                                  as_aux_lemma =>
                                    have H' := Aside0.mk H
                                    clear H
                                    go_wp2_with (first | ((with_reducible refine gate_callee (f := 16) rfl ?_); refine goesL_ (some 106) rfl rfl Try.func16 (by kernel_rfl) rfl #[.slice A0 l0.length c0] rfl (by (try simp only [List.map_toArray, List.map_cons, List.map_nil]); first | done | rfl | (simp only [List.length_drop, List.length_take]; rfl)) ?_; (with_reducible refine (cutplaneref01_May.calls _ _ l0 false _ ?side1 ?side2 A58.out).mono ?_); (case side1 => repeat (first | exact (Kd.C_below HR0.out HB.out) | (with_reducible refine Kd.C_alloc ?_ _) | (with_reducible refine Kd.C_drewN ?_ _) | (with_reducible refine Kd.C_drew ?_))); (case side2 => exact HC0.out); rintro e w' ⟨rfl, ⟨nd, rfl⟩⟩; refine ⟨_, rfl, ?_⟩))
                                    go_meet
                                    case rel => exact ⟨_, (true), (by first | rfl | (simp; done) | (simp [*]; done)), H', ⟨by have := HJ3.out; have := HJ12.out; have := HJ29.out; have := HJ33.out; have := HJ47.out; first | omega | exact Nat.le_refl _⟩, ⟨by (with_reducible repeat (first | apply Kd.R_alloc | apply Kd.R_drewN | apply Kd.R_drew)); exact HO_7.out⟩, ⟨by (with_reducible repeat (first | apply Kd.R_alloc | apply Kd.R_drewN | apply Kd.R_drew)); exact HO_8.out⟩, ⟨by (with_reducible repeat (first | apply Kd.R_alloc | apply Kd.R_drewN | apply Kd.R_drew)); exact HO_14.out⟩, ⟨by (with_reducible repeat (first | apply Kd.R_alloc | apply Kd.R_drewN | apply Kd.R_drew)); exact HO_16.out⟩, ⟨by repeat (first | (with_reducible first | exact HB.out | apply below_alloc | apply pw_below_drewN | apply below_drew1) | exact HB.out)⟩⟩
                              case rest =>
                                clear HC57
                                try clear c1
                                try clear c2
                                try clear p2
                                try clear c3
                                try clear c4
                                try clear c5
                                try clear c6
                                try clear c8
                                try clear c12
                                try clear c13
                                try clear c14
                                try clear c15
                                try clear c16
                                try clear c17
                                try clear c18
                                try clear c18b0
                                try clear c18b1
                                try clear c18b2
                                try clear c20
                                try clear c21
                                try clear c22
                                try clear c23
                                try clear c28
                                try clear c33
                                try clear c35
                                try clear c35b0
                                try clear c35b1
                                try clear c35b2
                                try clear c36
                                try clear c39
                                try clear c44
                                try clear c54
                                try clear c56
                                try clear c59
                                try clear p2
                                obtain ⟨kq, x112_56, rfl, HA, HJ56, HO_7, HO_8, HO_14, HO_16, HB⟩ := hcut
                                cases kq with
                                | zero => exact absurd HA.out (by simp [cutplanelaw01_NatSums.j5])
                                | succ kj56 =>
                                  have H := HA.out
                                  clear HA
                                  simp only [cutplanelaw01_NatSums.j5] at H
                                  by_cases c61 : x112_56 = true
                                  · subst c61
                                    have H1 : (if t277 = 0 then (if t278 = 2 then (if (t279.length : Int) = 0 then (if t282 = 2 then (if (t283.length : Int) = 0 then (if t286 = 2 then ((cutplanelaw01_known.f kj56).bind fun t291 => (some t291)) else (some false)) else (some false)) else (some false)) else (some false)) else (some false)) else (some false)) = some r := by rw [if_pos rfl] at H; exact H
                                    clear H
                                    have H := H1
                                    clear H1
                                    by_cases c62 : t277 = 0
                                    · rw [if_pos c62] at H
                                      have c62b0 : (t277 == 0) = true := beq_iff_eq.mpr c62
                                      have c62b1 : (t277 != 0) = false := bne_eq_false_iff_eq.mpr c62
                                      clear c62
                                      by_cases c63 : t278 = 2
                                      · rw [if_pos c63] at H
                                        have c63b0 : (t278 == 2) = true := beq_iff_eq.mpr c63
                                        have c63b1 : (t278 != 2) = false := bne_eq_false_iff_eq.mpr c63
                                        clear c63
                                        by_cases c64 : (t279.length : Int) = 0
                                        · rw [if_pos c64] at H
                                          have c64b0 : ((t279.length : Int) == 0) = true := beq_iff_eq.mpr c64
                                          have c64b1 : ((t279.length : Int) != 0) = false := bne_eq_false_iff_eq.mpr c64
                                          clear c64
                                          by_cases c65 : t282 = 2
                                          · rw [if_pos c65] at H
                                            have c65b0 : (t282 == 2) = true := beq_iff_eq.mpr c65
                                            have c65b1 : (t282 != 2) = false := bne_eq_false_iff_eq.mpr c65
                                            clear c65
                                            by_cases c66 : (t283.length : Int) = 0
                                            · rw [if_pos c66] at H
                                              have c66b0 : ((t283.length : Int) == 0) = true := beq_iff_eq.mpr c66
                                              have c66b1 : ((t283.length : Int) != 0) = false := bne_eq_false_iff_eq.mpr c66
                                              clear c66
                                              by_cases c67 : t286 = 2
                                              · rw [if_pos c67] at H
                                                have c67b0 : (t286 == 2) = true := beq_iff_eq.mpr c67
                                                have c67b1 : (t286 != 2) = false := bne_eq_false_iff_eq.mpr c67
                                                clear c67
                                                replace H := Option.bind_eq_some_iff.mp H
                                                obtain ⟨t291, A680, H⟩ := H
                                                replace H : (some t291) = some r := H
                                                have A68 := Aside0.mk A680
                                                clear A680
                                                as_aux_lemma =>
                                                  obtain rfl := Option.some.inj H
                                                  obtain ⟨Ao69, co69, eo69⟩ := Kd.R_slice HO_14.out
                                                  subst eo69
                                                  obtain ⟨Ao70, co70, eo70⟩ := Kd.R_slice HO_16.out
                                                  subst eo70
                                                  go_wp2_with (first | (go_at_call 13; (with_reducible refine (cutplanelaw01_known.calls kj56  t291 _ A68.out).mono ?_); rintro e w71 ⟨rfl, hb⟩; have n0_ := Aside0.mk (Kd.R_below (by (with_reducible repeat (first | apply Kd.R_alloc | apply Kd.R_drewN | apply Kd.R_drew)); exact HO_7.out) hb); have n1_ := Aside0.mk (Kd.R_below (by (with_reducible repeat (first | apply Kd.R_alloc | apply Kd.R_drewN | apply Kd.R_drew)); exact HO_8.out) hb); have n2_ := Aside0.mk (Kd.R_below (by (with_reducible repeat (first | apply Kd.R_alloc | apply Kd.R_drewN | apply Kd.R_drew)); exact HO_14.out) hb); have n3_ := Aside0.mk (Kd.R_below (by (with_reducible repeat (first | apply Kd.R_alloc | apply Kd.R_drewN | apply Kd.R_drew)); exact HO_16.out) hb); have n4_ := Aside0.mk (below_step (by repeat (first | (with_reducible first | exact HB.out | apply below_alloc | apply pw_below_drewN | apply below_drew1) | exact HB.out)) hb); clear HO_7; clear HO_8; clear HO_14; clear HO_16; clear HB; have HO_7 := n0_; have HO_8 := n1_; have HO_14 := n2_; have HO_16 := n3_; have HB := n4_; clear n0_ n1_ n2_ n3_ n4_; (try clear hb); (try clear hb2); (try clear hk); (try clear hi)))
                                                  go_ret
                                                  exact ⟨by first | rfl | (simp [errW_none, errW_some] <;> rfl) | (simp [*, errW_none, errW_some] <;> rfl), by repeat (first | (with_reducible first | exact HB.out | apply below_alloc | apply pw_below_drewN | apply below_drew1) | exact HB.out)⟩
                                              · rw [if_neg c67] at H
                                                have c67b0 : (t286 == 2) = false := beq_eq_false_iff_ne.mpr c67
                                                have c67b1 : (t286 != 2) = true := bne_iff_ne.mpr c67
                                                as_aux_lemma =>
                                                  obtain rfl := Option.some.inj H
                                                  obtain ⟨Ao72, co72, eo72⟩ := Kd.R_slice HO_14.out
                                                  subst eo72
                                                  obtain ⟨Ao73, co73, eo73⟩ := Kd.R_slice HO_16.out
                                                  subst eo73
                                                  go_wp2
                                                  go_ret
                                                  exact ⟨by first | rfl | (simp [errW_none, errW_some] <;> rfl) | (simp [*, errW_none, errW_some] <;> rfl), by repeat (first | (with_reducible first | exact HB.out | apply below_alloc | apply pw_below_drewN | apply below_drew1) | exact HB.out)⟩
                                            · rw [if_neg c66] at H
                                              have c66b0 : ((t283.length : Int) == 0) = false := beq_eq_false_iff_ne.mpr c66
                                              have c66b1 : ((t283.length : Int) != 0) = true := bne_iff_ne.mpr c66
                                              have c66b2 : ¬ (t283 = []) := fun h_ => c66 (by rw [h_]; rfl)
                                              as_aux_lemma =>
                                                obtain rfl := Option.some.inj H
                                                obtain ⟨Ao74, co74, eo74⟩ := Kd.R_slice HO_14.out
                                                subst eo74
                                                obtain ⟨Ao75, co75, eo75⟩ := Kd.R_slice HO_16.out
                                                subst eo75
                                                go_wp2
                                                go_ret
                                                exact ⟨by first | rfl | (simp [errW_none, errW_some] <;> rfl) | (simp [*, errW_none, errW_some] <;> rfl), by repeat (first | (with_reducible first | exact HB.out | apply below_alloc | apply pw_below_drewN | apply below_drew1) | exact HB.out)⟩
                                          · rw [if_neg c65] at H
                                            have c65b0 : (t282 == 2) = false := beq_eq_false_iff_ne.mpr c65
                                            have c65b1 : (t282 != 2) = true := bne_iff_ne.mpr c65
                                            as_aux_lemma =>
                                              obtain rfl := Option.some.inj H
                                              obtain ⟨Ao76, co76, eo76⟩ := Kd.R_slice HO_14.out
                                              subst eo76
                                              go_wp2
                                              go_ret
                                              exact ⟨by first | rfl | (simp [errW_none, errW_some] <;> rfl) | (simp [*, errW_none, errW_some] <;> rfl), by repeat (first | (with_reducible first | exact HB.out | apply below_alloc | apply pw_below_drewN | apply below_drew1) | exact HB.out)⟩
                                        · rw [if_neg c64] at H
                                          have c64b0 : ((t279.length : Int) == 0) = false := beq_eq_false_iff_ne.mpr c64
                                          have c64b1 : ((t279.length : Int) != 0) = true := bne_iff_ne.mpr c64
                                          have c64b2 : ¬ (t279 = []) := fun h_ => c64 (by rw [h_]; rfl)
                                          as_aux_lemma =>
                                            obtain rfl := Option.some.inj H
                                            obtain ⟨Ao77, co77, eo77⟩ := Kd.R_slice HO_14.out
                                            subst eo77
                                            go_wp2
                                            go_ret
                                            exact ⟨by first | rfl | (simp [errW_none, errW_some] <;> rfl) | (simp [*, errW_none, errW_some] <;> rfl), by repeat (first | (with_reducible first | exact HB.out | apply below_alloc | apply pw_below_drewN | apply below_drew1) | exact HB.out)⟩
                                      · rw [if_neg c63] at H
                                        have c63b0 : (t278 == 2) = false := beq_eq_false_iff_ne.mpr c63
                                        have c63b1 : (t278 != 2) = true := bne_iff_ne.mpr c63
                                        as_aux_lemma =>
                                          obtain rfl := Option.some.inj H
                                          go_wp2
                                          go_ret
                                          exact ⟨by first | rfl | (simp [errW_none, errW_some] <;> rfl) | (simp [*, errW_none, errW_some] <;> rfl), by repeat (first | (with_reducible first | exact HB.out | apply below_alloc | apply pw_below_drewN | apply below_drew1) | exact HB.out)⟩
                                    · rw [if_neg c62] at H
                                      have c62b0 : (t277 == 0) = false := beq_eq_false_iff_ne.mpr c62
                                      have c62b1 : (t277 != 0) = true := bne_iff_ne.mpr c62
                                      as_aux_lemma =>
                                        obtain rfl := Option.some.inj H
                                        go_wp2
                                        go_ret
                                        exact ⟨by first | rfl | (simp [errW_none, errW_some] <;> rfl) | (simp [*, errW_none, errW_some] <;> rfl), by repeat (first | (with_reducible first | exact HB.out | apply below_alloc | apply pw_below_drewN | apply below_drew1) | exact HB.out)⟩
                                  · replace c61 := Bool.eq_false_iff.mpr c61
                                    subst c61
                                    have H1 : ((cutplaneref01_Cmp.f kj56 l0 l1).bind fun t292 => (if t277 = t292 then (cutplanelaw01_NatSums.j6 kj56 l0 l1 t255 t258 t279 t282 t283 t286 (t278 != 0)) else (cutplanelaw01_NatSums.j6 kj56 l0 l1 t255 t258 t279 t282 t283 t286 true))) = some r := by rw [if_neg (show ¬ (false = true) by decide)] at H; exact H
                                    clear H
                                    have H := H1
                                    clear H1
                                    have HC78 := Aside0.mk H
                                    clear H
                                    go_upto_region 17 with (fail)
                                    go_cut [148] (fun v148 wc => ∃ (kq : Nat) (x148_77 : Bool), v148 = .bool x148_77 ∧ Aside0 (cutplanelaw01_NatSums.j6 kq l0 l1 t255 t258 t279 t282 t283 t286 x148_77 = some r) ∧ Aside0 (kq ≤ kj56) ∧ Aside0 (Kd.R (Kd.int .u32) 42 wc w.heap.size (fun k_ => some k_ ≠ ((.slice Ao49 t258.length co49) : Value).ownBlock ∧ some k_ ≠ (v280 : Value).ownBlock ∧ some k_ ≠ (v284 : Value).ownBlock) (.slice Ao31 t255.length co31) t255) ∧ Aside0 (Kd.R (Kd.int .u32) 42 wc w.heap.size (fun k_ => some k_ ≠ ((.slice Ao31 t255.length co31) : Value).ownBlock ∧ some k_ ≠ (v280 : Value).ownBlock ∧ some k_ ≠ (v284 : Value).ownBlock) (.slice Ao49 t258.length co49) t258) ∧ Aside0 (Kd.R (Kd.int .u32) 42 wc w.heap.size (fun k_ => some k_ ≠ ((.slice Ao31 t255.length co31) : Value).ownBlock ∧ some k_ ≠ ((.slice Ao49 t258.length co49) : Value).ownBlock ∧ some k_ ≠ (v284 : Value).ownBlock) v280 t279) ∧ Aside0 (Kd.R (Kd.int .u32) 42 wc w.heap.size (fun k_ => some k_ ≠ ((.slice Ao31 t255.length co31) : Value).ownBlock ∧ some k_ ≠ ((.slice Ao49 t258.length co49) : Value).ownBlock ∧ some k_ ≠ (v280 : Value).ownBlock) v284 t283) ∧ Aside0 (Below w.heap.size w wc))
                                    case first =>
                                      have H := HC78.out
                                      clear HC78
                                      replace H := Option.bind_eq_some_iff.mp H
                                      obtain ⟨t292, A790, H⟩ := H
                                      replace H : (if t277 = t292 then (cutplanelaw01_NatSums.j6 kj56 l0 l1 t255 t258 t279 t282 t283 t286 (t278 != 0)) else (cutplanelaw01_NatSums.j6 kj56 l0 l1 t255 t258 t279 t282 t283 t286 true)) = some r := H
                                      have A79 := Aside0.mk A790
                                      clear A790
                                      by_cases c80 : t277 = t292
                                      · rw [if_pos c80] at H
                                        have c80b0 : (t277 == t292) = true := beq_iff_eq.mpr c80
                                        have c80b1 : (t277 != t292) = false := bne_eq_false_iff_eq.mpr c80
                                        clear c80
                                        (first | rw [c80b0] | rw [c80b1] | (simp only [i64_w, i32_w]; rw [c80b0]) | skip)
                                        as_aux_lemma =>
                                          have H' := Aside0.mk H
                                          clear H
                                          go_wp2_with (first | ((with_reducible refine gate_callee (f := 24) rfl ?_); refine goesL_ (some 143) rfl rfl Try.func24 (by kernel_rfl) rfl #[.slice A0 l0.length c0, .slice A1 l1.length c1] rfl (by (try simp only [List.map_toArray, List.map_cons, List.map_nil]); first | done | rfl | (simp only [List.length_drop, List.length_take]; rfl)) ?_; (with_reducible refine (cutplaneref01_Cmp.calls kj56 _ _ l0 _ _ l1 t292 _ ?side1 ?side2 ?side3 ?side4 A79.out).mono ?_); (case side1 => repeat (first | exact (Kd.C_below HR0.out HB.out) | (with_reducible refine Kd.C_alloc ?_ _) | (with_reducible refine Kd.C_drewN ?_ _) | (with_reducible refine Kd.C_drew ?_))); (case side2 => exact HC0.out); (case side3 => repeat (first | exact (Kd.C_below HR1.out HB.out) | (with_reducible refine Kd.C_alloc ?_ _) | (with_reducible refine Kd.C_drewN ?_ _) | (with_reducible refine Kd.C_drew ?_))); (case side4 => exact HC1.out); rintro e w' ⟨rfl, ⟨nd, rfl⟩⟩; refine ⟨_, rfl, ?_⟩))
                                          go_meet
                                          case rel => exact ⟨_, ((t278 != 0)), (by first | rfl | (simp; done) | (simp [*]; done)), H', ⟨by have := HJ3.out; have := HJ12.out; have := HJ29.out; have := HJ33.out; have := HJ47.out; have := HJ56.out; first | omega | exact Nat.le_refl _⟩, ⟨by (with_reducible repeat (first | apply Kd.R_alloc | apply Kd.R_drewN | apply Kd.R_drew)); exact HO_7.out⟩, ⟨by (with_reducible repeat (first | apply Kd.R_alloc | apply Kd.R_drewN | apply Kd.R_drew)); exact HO_8.out⟩, ⟨by (with_reducible repeat (first | apply Kd.R_alloc | apply Kd.R_drewN | apply Kd.R_drew)); exact HO_14.out⟩, ⟨by (with_reducible repeat (first | apply Kd.R_alloc | apply Kd.R_drewN | apply Kd.R_drew)); exact HO_16.out⟩, ⟨by repeat (first | (with_reducible first | exact HB.out | apply below_alloc | apply pw_below_drewN | apply below_drew1) | exact HB.out)⟩⟩
                                      · rw [if_neg c80] at H
                                        have c80b0 : (t277 == t292) = false := beq_eq_false_iff_ne.mpr c80
                                        have c80b1 : (t277 != t292) = true := bne_iff_ne.mpr c80
                                        (first | rw [c80b0] | rw [c80b1] | (simp only [i64_w, i32_w]; rw [c80b0]) | skip)
                                        as_aux_lemma =>
                                          have H' := Aside0.mk H
                                          clear H
                                          go_wp2_with (first | ((with_reducible refine gate_callee (f := 24) rfl ?_); refine goesL_ (some 143) rfl rfl Try.func24 (by kernel_rfl) rfl #[.slice A0 l0.length c0, .slice A1 l1.length c1] rfl (by (try simp only [List.map_toArray, List.map_cons, List.map_nil]); first | done | rfl | (simp only [List.length_drop, List.length_take]; rfl)) ?_; (with_reducible refine (cutplaneref01_Cmp.calls kj56 _ _ l0 _ _ l1 t292 _ ?side1 ?side2 ?side3 ?side4 A79.out).mono ?_); (case side1 => repeat (first | exact (Kd.C_below HR0.out HB.out) | (with_reducible refine Kd.C_alloc ?_ _) | (with_reducible refine Kd.C_drewN ?_ _) | (with_reducible refine Kd.C_drew ?_))); (case side2 => exact HC0.out); (case side3 => repeat (first | exact (Kd.C_below HR1.out HB.out) | (with_reducible refine Kd.C_alloc ?_ _) | (with_reducible refine Kd.C_drewN ?_ _) | (with_reducible refine Kd.C_drew ?_))); (case side4 => exact HC1.out); rintro e w' ⟨rfl, ⟨nd, rfl⟩⟩; refine ⟨_, rfl, ?_⟩))
                                          go_meet
                                          case rel => exact ⟨_, (true), (by first | rfl | (simp; done) | (simp [*]; done)), H', ⟨by have := HJ3.out; have := HJ12.out; have := HJ29.out; have := HJ33.out; have := HJ47.out; have := HJ56.out; first | omega | exact Nat.le_refl _⟩, ⟨by (with_reducible repeat (first | apply Kd.R_alloc | apply Kd.R_drewN | apply Kd.R_drew)); exact HO_7.out⟩, ⟨by (with_reducible repeat (first | apply Kd.R_alloc | apply Kd.R_drewN | apply Kd.R_drew)); exact HO_8.out⟩, ⟨by (with_reducible repeat (first | apply Kd.R_alloc | apply Kd.R_drewN | apply Kd.R_drew)); exact HO_14.out⟩, ⟨by (with_reducible repeat (first | apply Kd.R_alloc | apply Kd.R_drewN | apply Kd.R_drew)); exact HO_16.out⟩, ⟨by repeat (first | (with_reducible first | exact HB.out | apply below_alloc | apply pw_below_drewN | apply below_drew1) | exact HB.out)⟩⟩
                                    case rest =>
                                      clear HC78
                                      try clear c1
                                      try clear c2
                                      try clear p2
                                      try clear c3
                                      try clear c4
                                      try clear c5
                                      try clear c6
                                      try clear c8
                                      try clear c12
                                      try clear c13
                                      try clear c14
                                      try clear c15
                                      try clear c16
                                      try clear c17
                                      try clear c18
                                      try clear c18b0
                                      try clear c18b1
                                      try clear c18b2
                                      try clear c20
                                      try clear c21
                                      try clear c22
                                      try clear c23
                                      try clear c24
                                      try clear c28
                                      try clear c33
                                      try clear c35
                                      try clear c35b0
                                      try clear c35b1
                                      try clear c35b2
                                      try clear c36
                                      try clear c39
                                      try clear c44
                                      try clear c54
                                      try clear c56
                                      try clear c59
                                      try clear c61
                                      try clear c62
                                      try clear c62b0
                                      try clear c62b1
                                      try clear c63
                                      try clear c63b0
                                      try clear c63b1
                                      try clear c64
                                      try clear c64b0
                                      try clear c64b1
                                      try clear c64b2
                                      try clear c65
                                      try clear c65b0
                                      try clear c65b1
                                      try clear c66
                                      try clear c66b0
                                      try clear c66b1
                                      try clear c66b2
                                      try clear c67
                                      try clear c67b0
                                      try clear c67b1
                                      try clear c80
                                      try clear c80b0
                                      try clear c80b1
                                      try clear p2
                                      obtain ⟨kq, x148_77, rfl, HA, HJ77, HO_7, HO_8, HO_14, HO_16, HB⟩ := hcut
                                      cases kq with
                                      | zero => exact absurd HA.out (by simp [cutplanelaw01_NatSums.j6])
                                      | succ kj77 =>
                                        have H := HA.out
                                        clear HA
                                        simp only [cutplanelaw01_NatSums.j6] at H
                                        by_cases c81 : x148_77 = true
                                        · subst c81
                                          have H1 : (some false) = some r := by rw [if_pos rfl] at H; exact H
                                          clear H
                                          have H := H1
                                          clear H1
                                          as_aux_lemma =>
                                            obtain rfl := Option.some.inj H
                                            go_wp2
                                            go_ret
                                            exact ⟨by first | rfl | (simp [errW_none, errW_some] <;> rfl) | (simp [*, errW_none, errW_some] <;> rfl), by repeat (first | (with_reducible first | exact HB.out | apply below_alloc | apply pw_below_drewN | apply below_drew1) | exact HB.out)⟩
                                        · replace c81 := Bool.eq_false_iff.mpr c81
                                          subst c81
                                          have H1 : ((cutplaneref01_Add.f kj77 l0 l1).bind fun t293 => (if (t293.length : Int) > 4096 then (if (t279.length : Int) = 0 then (if t282 = 3 then (cutplanelaw01_NatSums.j7 kj77 l0 l1 t255 t258 t279 t283 t286) else (some false)) else (some false)) else ((cutplaneref01_Same.f kj77 t279 t293).bind fun t296 => (if t296 = true then (if t282 = 0 then (cutplanelaw01_NatSums.j7 kj77 l0 l1 t255 t258 t279 t283 t286) else (some false)) else (some false))))) = some r := by rw [if_neg (show ¬ (false = true) by decide)] at H; exact H
                                          clear H
                                          have H := H1
                                          clear H1
                                          replace H := Option.bind_eq_some_iff.mp H
                                          obtain ⟨t293, A820, H⟩ := H
                                          replace H : (if (t293.length : Int) > 4096 then (if (t279.length : Int) = 0 then (if t282 = 3 then (cutplanelaw01_NatSums.j7 kj77 l0 l1 t255 t258 t279 t283 t286) else (some false)) else (some false)) else ((cutplaneref01_Same.f kj77 t279 t293).bind fun t296 => (if t296 = true then (if t282 = 0 then (cutplanelaw01_NatSums.j7 kj77 l0 l1 t255 t258 t279 t283 t286) else (some false)) else (some false)))) = some r := H
                                          have A82 := Aside0.mk A820
                                          clear A820
                                          have HC83 := Aside0.mk H
                                          clear H
                                          go_upto_if 154 with (first | ((with_reducible refine gate_callee (f := 25) rfl ?_); refine goesL_ (some 151) rfl rfl Try.func25 (by kernel_rfl) rfl #[.slice A0 l0.length c0, .slice A1 l1.length c1] rfl (by (try simp only [List.map_toArray, List.map_cons, List.map_nil]); first | done | rfl | (simp only [List.length_drop, List.length_take]; rfl)) ?_; (with_reducible refine (cutplaneref01_Add.calls kj77 _ _ l0 _ _ l1 t293 _ ?side1 ?side2 ?side3 ?side4 A82.out).mono ?_); (case side1 => repeat (first | exact (Kd.C_below HR0.out HB.out) | (with_reducible refine Kd.C_alloc ?_ _) | (with_reducible refine Kd.C_drewN ?_ _) | (with_reducible refine Kd.C_drew ?_))); (case side2 => exact HC0.out); (case side3 => repeat (first | exact (Kd.C_below HR1.out HB.out) | (with_reducible refine Kd.C_alloc ?_ _) | (with_reducible refine Kd.C_drewN ?_ _) | (with_reducible refine Kd.C_drew ?_))); (case side4 => exact HC1.out); rintro e w84 ⟨v294, rfl, ho0, hb⟩; refine ⟨_, rfl, ?_⟩; have n0_ := Aside0.mk (Kd.R_elder' (by (with_reducible repeat (first | apply Kd.R_alloc | apply Kd.R_drewN | apply Kd.R_drew)); exact HO_7.out) (Kd.R_base ho0) hb); have n1_ := Aside0.mk (Kd.R_elder' (by (with_reducible repeat (first | apply Kd.R_alloc | apply Kd.R_drewN | apply Kd.R_drew)); exact HO_8.out) (Kd.R_base ho0) hb); have n2_ := Aside0.mk (Kd.R_elder' (by (with_reducible repeat (first | apply Kd.R_alloc | apply Kd.R_drewN | apply Kd.R_drew)); exact HO_14.out) (Kd.R_base ho0) hb); have n3_ := Aside0.mk (Kd.R_elder' (by (with_reducible repeat (first | apply Kd.R_alloc | apply Kd.R_drewN | apply Kd.R_drew)); exact HO_16.out) (Kd.R_base ho0) hb); have n4_ := Aside0.mk (Kd.R_lower (Kd.R_new' (Kd.R_new' (Kd.R_new' (Kd.R_new' ho0 (Kd.R_lt (by (with_reducible repeat (first | apply Kd.R_alloc | apply Kd.R_drewN | apply Kd.R_drew)); exact HO_7.out))) (Kd.R_lt (by (with_reducible repeat (first | apply Kd.R_alloc | apply Kd.R_drewN | apply Kd.R_drew)); exact HO_8.out))) (Kd.R_lt (by (with_reducible repeat (first | apply Kd.R_alloc | apply Kd.R_drewN | apply Kd.R_drew)); exact HO_14.out))) (Kd.R_lt (by (with_reducible repeat (first | apply Kd.R_alloc | apply Kd.R_drewN | apply Kd.R_drew)); exact HO_16.out))) (below_size (by repeat (first | (with_reducible first | exact HB.out | apply below_alloc | apply pw_below_drewN | apply below_drew1) | exact HB.out)))); have n5_ := Aside0.mk (below_step (by repeat (first | (with_reducible first | exact HB.out | apply below_alloc | apply pw_below_drewN | apply below_drew1) | exact HB.out)) hb); clear HO_7; clear HO_8; clear HO_14; clear HO_16; clear HB; have HO_7 := n0_; have HO_8 := n1_; have HO_14 := n2_; have HO_16 := n3_; have HO295 := n4_; have HB := n5_; clear n0_ n1_ n2_ n3_ n4_ n5_; (try clear hb); (try clear hb2); (try clear hk); (try clear hi); (try clear ho0); obtain ⟨Ao85, co85, eo85⟩ := Kd.R_slice HO295.out; subst eo85))
                                          (try simp only [Act.put, List.setIfInBounds_toArray, List.set_cons_zero, List.set_cons_succ])
                                          go_cut [] (fun wc => ∃ (kq : Nat), Aside0 (cutplanelaw01_NatSums.j7 kq l0 l1 t255 t258 t279 t283 t286 = some r) ∧ Aside0 (kq ≤ kj77) ∧ Aside0 (Kd.R (Kd.int .u32) 42 wc w.heap.size (fun k_ => some k_ ≠ ((.slice Ao49 t258.length co49) : Value).ownBlock ∧ some k_ ≠ (v280 : Value).ownBlock ∧ some k_ ≠ (v284 : Value).ownBlock) (.slice Ao31 t255.length co31) t255) ∧ Aside0 (Kd.R (Kd.int .u32) 42 wc w.heap.size (fun k_ => some k_ ≠ ((.slice Ao31 t255.length co31) : Value).ownBlock ∧ some k_ ≠ (v280 : Value).ownBlock ∧ some k_ ≠ (v284 : Value).ownBlock) (.slice Ao49 t258.length co49) t258) ∧ Aside0 (Kd.R (Kd.int .u32) 42 wc w.heap.size (fun k_ => some k_ ≠ ((.slice Ao31 t255.length co31) : Value).ownBlock ∧ some k_ ≠ ((.slice Ao49 t258.length co49) : Value).ownBlock ∧ some k_ ≠ (v284 : Value).ownBlock) v280 t279) ∧ Aside0 (Kd.R (Kd.int .u32) 42 wc w.heap.size (fun k_ => some k_ ≠ ((.slice Ao31 t255.length co31) : Value).ownBlock ∧ some k_ ≠ ((.slice Ao49 t258.length co49) : Value).ownBlock ∧ some k_ ≠ (v280 : Value).ownBlock) v284 t283) ∧ Aside0 (Below w.heap.size w wc))
                                          case first =>
                                            have H := HC83.out
                                            clear HC83
                                            by_cases c86 : (t293.length : Int) > 4096
                                            · rw [if_pos c86] at H
                                              have c86b0 : decide (4096 < (t293.length : Int)) = true := decide_eq_true c86
                                              have c86b1 : decide (4096 < t293.length) = true := decide_eq_true (by omega)
                                              clear c86
                                              (first | rw [c86b0] | rw [c86b1] | (simp only [i64_w, i32_w]; rw [c86b0]) | skip)
                                              by_cases c87 : (t279.length : Int) = 0
                                              · rw [if_pos c87] at H
                                                have c87b0 : ((t279.length : Int) == 0) = true := beq_iff_eq.mpr c87
                                                have c87b1 : ((t279.length : Int) != 0) = false := bne_eq_false_iff_eq.mpr c87
                                                clear c87
                                                by_cases c88 : t282 = 3
                                                · rw [if_pos c88] at H
                                                  have c88b0 : (t282 == 3) = true := beq_iff_eq.mpr c88
                                                  have c88b1 : (t282 != 3) = false := bne_eq_false_iff_eq.mpr c88
                                                  clear c88
                                                  as_aux_lemma =>
                                                    have H' := Aside0.mk H
                                                    clear H
                                                    obtain ⟨Ao89, co89, eo89⟩ := Kd.R_slice HO_14.out
                                                    subst eo89
                                                    go_wp2
                                                    go_meet
                                                    case rel => exact ⟨_, H', ⟨by have := HJ3.out; have := HJ12.out; have := HJ29.out; have := HJ33.out; have := HJ47.out; have := HJ56.out; have := HJ77.out; first | omega | exact Nat.le_refl _⟩, ⟨by (with_reducible repeat (first | apply Kd.R_alloc | apply Kd.R_drewN | apply Kd.R_drew)); exact Kd.R_mono HO_7.out (fun _ hk => ⟨hk.1.1, ⟨hk.1.2.1, hk.1.2.2⟩⟩)⟩, ⟨by (with_reducible repeat (first | apply Kd.R_alloc | apply Kd.R_drewN | apply Kd.R_drew)); exact Kd.R_mono HO_8.out (fun _ hk => ⟨hk.1.1, ⟨hk.1.2.1, hk.1.2.2⟩⟩)⟩, ⟨by (with_reducible repeat (first | apply Kd.R_alloc | apply Kd.R_drewN | apply Kd.R_drew)); exact Kd.R_mono HO_14.out (fun _ hk => ⟨hk.1.1, ⟨hk.1.2.1, hk.1.2.2⟩⟩)⟩, ⟨by (with_reducible repeat (first | apply Kd.R_alloc | apply Kd.R_drewN | apply Kd.R_drew)); exact Kd.R_mono HO_16.out (fun _ hk => ⟨hk.1.1, ⟨hk.1.2.1, hk.1.2.2⟩⟩)⟩, ⟨by repeat (first | (with_reducible first | exact HB.out | apply below_alloc | apply pw_below_drewN | apply below_drew1) | exact HB.out)⟩⟩
                                                · rw [if_neg c88] at H
                                                  have c88b0 : (t282 == 3) = false := beq_eq_false_iff_ne.mpr c88
                                                  have c88b1 : (t282 != 3) = true := bne_iff_ne.mpr c88
                                                  as_aux_lemma =>
                                                    obtain rfl := Option.some.inj H
                                                    obtain ⟨Ao90, co90, eo90⟩ := Kd.R_slice HO_14.out
                                                    subst eo90
                                                    go_wp2
                                                    go_ret
                                                    exact ⟨by first | rfl | (simp [errW_none, errW_some] <;> rfl) | (simp [*, errW_none, errW_some] <;> rfl), by repeat (first | (with_reducible first | exact HB.out | apply below_alloc | apply pw_below_drewN | apply below_drew1) | exact HB.out)⟩
                                              · rw [if_neg c87] at H
                                                have c87b0 : ((t279.length : Int) == 0) = false := beq_eq_false_iff_ne.mpr c87
                                                have c87b1 : ((t279.length : Int) != 0) = true := bne_iff_ne.mpr c87
                                                have c87b2 : ¬ (t279 = []) := fun h_ => c87 (by rw [h_]; rfl)
                                                as_aux_lemma =>
                                                  obtain rfl := Option.some.inj H
                                                  obtain ⟨Ao91, co91, eo91⟩ := Kd.R_slice HO_14.out
                                                  subst eo91
                                                  go_wp2
                                                  go_ret
                                                  exact ⟨by first | rfl | (simp [errW_none, errW_some] <;> rfl) | (simp [*, errW_none, errW_some] <;> rfl), by repeat (first | (with_reducible first | exact HB.out | apply below_alloc | apply pw_below_drewN | apply below_drew1) | exact HB.out)⟩
                                            · rw [if_neg c86] at H
                                              have c86b0 : decide (4096 < (t293.length : Int)) = false := decide_eq_false c86
                                              have c86b1 : decide (4096 < t293.length) = false := decide_eq_false (by omega)
                                              clear c86
                                              (first | rw [c86b0] | rw [c86b1] | (simp only [i64_w, i32_w]; rw [c86b0]) | skip)
                                              replace H := Option.bind_eq_some_iff.mp H
                                              obtain ⟨t296, A920, H⟩ := H
                                              replace H : (if t296 = true then (if t282 = 0 then (cutplanelaw01_NatSums.j7 kj77 l0 l1 t255 t258 t279 t283 t286) else (some false)) else (some false)) = some r := H
                                              have A92 := Aside0.mk A920
                                              clear A920
                                              by_cases c93 : t296 = true
                                              · subst c93
                                                have H1 : (if t282 = 0 then (cutplanelaw01_NatSums.j7 kj77 l0 l1 t255 t258 t279 t283 t286) else (some false)) = some r := by rw [if_pos rfl] at H; exact H
                                                clear H
                                                have H := H1
                                                clear H1
                                                by_cases c94 : t282 = 0
                                                · rw [if_pos c94] at H
                                                  have c94b0 : (t282 == 0) = true := beq_iff_eq.mpr c94
                                                  have c94b1 : (t282 != 0) = false := bne_eq_false_iff_eq.mpr c94
                                                  clear c94
                                                  as_aux_lemma =>
                                                    have H' := Aside0.mk H
                                                    clear H
                                                    obtain ⟨Ao95, co95, eo95⟩ := Kd.R_slice HO_14.out
                                                    subst eo95
                                                    go_wp2_with (first | ((with_reducible refine gate_callee (f := 17) rfl ?_); refine goesL_ (some 164) rfl rfl Try.func17 (by kernel_rfl) rfl #[.slice Ao95 t279.length co95, .slice Ao85 t293.length co85] rfl (by (try simp only [List.map_toArray, List.map_cons, List.map_nil]); first | done | rfl | (simp only [List.length_drop, List.length_take]; rfl)) ?_; (with_reducible refine (cutplaneref01_Same.calls kj77 _ _ t279 _ _ t293 true _ ?side1 ?side2 ?side3 ?side4 A92.out).mono ?_); (case side1 => repeat (first | exact (Kd.R_reads' HO_14.out).2.2 | (with_reducible refine Kd.C_alloc ?_ _) | (with_reducible refine Kd.C_drewN ?_ _) | (with_reducible refine Kd.C_drew ?_))); (case side2 => exact (Kd.R_reads' HO_14.out).2.1); (case side3 => repeat (first | exact (Kd.R_reads' HO295.out).2.2 | (with_reducible refine Kd.C_alloc ?_ _) | (with_reducible refine Kd.C_drewN ?_ _) | (with_reducible refine Kd.C_drew ?_))); (case side4 => exact (Kd.R_reads' HO295.out).2.1); rintro e w' ⟨rfl, ⟨nd, rfl⟩⟩; refine ⟨_, rfl, ?_⟩))
                                                    go_meet
                                                    case rel => exact ⟨_, H', ⟨by have := HJ3.out; have := HJ12.out; have := HJ29.out; have := HJ33.out; have := HJ47.out; have := HJ56.out; have := HJ77.out; first | omega | exact Nat.le_refl _⟩, ⟨by (with_reducible repeat (first | apply Kd.R_alloc | apply Kd.R_drewN | apply Kd.R_drew)); exact Kd.R_mono HO_7.out (fun _ hk => ⟨hk.1.1, ⟨hk.1.2.1, hk.1.2.2⟩⟩)⟩, ⟨by (with_reducible repeat (first | apply Kd.R_alloc | apply Kd.R_drewN | apply Kd.R_drew)); exact Kd.R_mono HO_8.out (fun _ hk => ⟨hk.1.1, ⟨hk.1.2.1, hk.1.2.2⟩⟩)⟩, ⟨by (with_reducible repeat (first | apply Kd.R_alloc | apply Kd.R_drewN | apply Kd.R_drew)); exact Kd.R_mono HO_14.out (fun _ hk => ⟨hk.1.1, ⟨hk.1.2.1, hk.1.2.2⟩⟩)⟩, ⟨by (with_reducible repeat (first | apply Kd.R_alloc | apply Kd.R_drewN | apply Kd.R_drew)); exact Kd.R_mono HO_16.out (fun _ hk => ⟨hk.1.1, ⟨hk.1.2.1, hk.1.2.2⟩⟩)⟩, ⟨by repeat (first | (with_reducible first | exact HB.out | apply below_alloc | apply pw_below_drewN | apply below_drew1) | exact HB.out)⟩⟩
                                                · rw [if_neg c94] at H
                                                  have c94b0 : (t282 == 0) = false := beq_eq_false_iff_ne.mpr c94
                                                  have c94b1 : (t282 != 0) = true := bne_iff_ne.mpr c94
                                                  as_aux_lemma =>
                                                    obtain rfl := Option.some.inj H
                                                    obtain ⟨Ao96, co96, eo96⟩ := Kd.R_slice HO_14.out
                                                    subst eo96
                                                    go_wp2_with (first | ((with_reducible refine gate_callee (f := 17) rfl ?_); refine goesL_ (some 164) rfl rfl Try.func17 (by kernel_rfl) rfl #[.slice Ao96 t279.length co96, .slice Ao85 t293.length co85] rfl (by (try simp only [List.map_toArray, List.map_cons, List.map_nil]); first | done | rfl | (simp only [List.length_drop, List.length_take]; rfl)) ?_; (with_reducible refine (cutplaneref01_Same.calls kj77 _ _ t279 _ _ t293 true _ ?side1 ?side2 ?side3 ?side4 A92.out).mono ?_); (case side1 => repeat (first | exact (Kd.R_reads' HO_14.out).2.2 | (with_reducible refine Kd.C_alloc ?_ _) | (with_reducible refine Kd.C_drewN ?_ _) | (with_reducible refine Kd.C_drew ?_))); (case side2 => exact (Kd.R_reads' HO_14.out).2.1); (case side3 => repeat (first | exact (Kd.R_reads' HO295.out).2.2 | (with_reducible refine Kd.C_alloc ?_ _) | (with_reducible refine Kd.C_drewN ?_ _) | (with_reducible refine Kd.C_drew ?_))); (case side4 => exact (Kd.R_reads' HO295.out).2.1); rintro e w' ⟨rfl, ⟨nd, rfl⟩⟩; refine ⟨_, rfl, ?_⟩))
                                                    go_ret
                                                    exact ⟨by first | rfl | (simp [errW_none, errW_some] <;> rfl) | (simp [*, errW_none, errW_some] <;> rfl), by repeat (first | (with_reducible first | exact HB.out | apply below_alloc | apply pw_below_drewN | apply below_drew1) | exact HB.out)⟩
                                              · replace c93 := Bool.eq_false_iff.mpr c93
                                                subst c93
                                                have H1 : (some false) = some r := by rw [if_neg (show ¬ (false = true) by decide)] at H; exact H
                                                clear H
                                                have H := H1
                                                clear H1
                                                as_aux_lemma =>
                                                  obtain rfl := Option.some.inj H
                                                  obtain ⟨Ao97, co97, eo97⟩ := Kd.R_slice HO_14.out
                                                  subst eo97
                                                  go_wp2_with (first | ((with_reducible refine gate_callee (f := 17) rfl ?_); refine goesL_ (some 164) rfl rfl Try.func17 (by kernel_rfl) rfl #[.slice Ao97 t279.length co97, .slice Ao85 t293.length co85] rfl (by (try simp only [List.map_toArray, List.map_cons, List.map_nil]); first | done | rfl | (simp only [List.length_drop, List.length_take]; rfl)) ?_; (with_reducible refine (cutplaneref01_Same.calls kj77 _ _ t279 _ _ t293 false _ ?side1 ?side2 ?side3 ?side4 A92.out).mono ?_); (case side1 => repeat (first | exact (Kd.R_reads' HO_14.out).2.2 | (with_reducible refine Kd.C_alloc ?_ _) | (with_reducible refine Kd.C_drewN ?_ _) | (with_reducible refine Kd.C_drew ?_))); (case side2 => exact (Kd.R_reads' HO_14.out).2.1); (case side3 => repeat (first | exact (Kd.R_reads' HO295.out).2.2 | (with_reducible refine Kd.C_alloc ?_ _) | (with_reducible refine Kd.C_drewN ?_ _) | (with_reducible refine Kd.C_drew ?_))); (case side4 => exact (Kd.R_reads' HO295.out).2.1); rintro e w' ⟨rfl, ⟨nd, rfl⟩⟩; refine ⟨_, rfl, ?_⟩))
                                                  go_ret
                                                  exact ⟨by first | rfl | (simp [errW_none, errW_some] <;> rfl) | (simp [*, errW_none, errW_some] <;> rfl), by repeat (first | (with_reducible first | exact HB.out | apply below_alloc | apply pw_below_drewN | apply below_drew1) | exact HB.out)⟩
                                          case rest =>
                                            clear HC83
                                            try clear c1
                                            try clear c2
                                            try clear p2
                                            try clear c3
                                            try clear c4
                                            try clear c5
                                            try clear c6
                                            try clear c8
                                            try clear c9
                                            try clear c12
                                            try clear c13
                                            try clear c14
                                            try clear c15
                                            try clear c16
                                            try clear c17
                                            try clear c18
                                            try clear c18b0
                                            try clear c18b1
                                            try clear c18b2
                                            try clear c20
                                            try clear c21
                                            try clear c22
                                            try clear c23
                                            try clear c24
                                            try clear c25
                                            try clear c28
                                            try clear c33
                                            try clear c35
                                            try clear c35b0
                                            try clear c35b1
                                            try clear c35b2
                                            try clear c36
                                            try clear c39
                                            try clear c44
                                            try clear c54
                                            try clear c56
                                            try clear c59
                                            try clear c61
                                            try clear c62
                                            try clear c62b0
                                            try clear c62b1
                                            try clear c63
                                            try clear c63b0
                                            try clear c63b1
                                            try clear c64
                                            try clear c64b0
                                            try clear c64b1
                                            try clear c64b2
                                            try clear c65
                                            try clear c65b0
                                            try clear c65b1
                                            try clear c66
                                            try clear c66b0
                                            try clear c66b1
                                            try clear c66b2
                                            try clear c67
                                            try clear c67b0
                                            try clear c67b1
                                            try clear c80
                                            try clear c80b0
                                            try clear c80b1
                                            try clear c81
                                            try clear c86
                                            try clear c86b0
                                            try clear c86b1
                                            try clear c87
                                            try clear c87b0
                                            try clear c87b1
                                            try clear c87b2
                                            try clear c88
                                            try clear c88b0
                                            try clear c88b1
                                            try clear c93
                                            try clear c94
                                            try clear c94b0
                                            try clear c94b1
                                            try clear p2
                                            obtain ⟨kq, HA, HJ82, HO_7, HO_8, HO_14, HO_16, HB⟩ := hcut
                                            cases kq with
                                            | zero => exact absurd HA.out (by simp [cutplanelaw01_NatSums.j7])
                                            | succ kj82 =>
                                              have H := HA.out
                                              clear HA
                                              simp only [cutplanelaw01_NatSums.j7] at H
                                              replace H := Option.bind_eq_some_iff.mp H
                                              obtain ⟨t297, A980, H⟩ := H
                                              replace H : (if t297 < 0 then (if (t283.length : Int) = 0 then (if t286 = 10 then ((cutplanelaw01_known.f kj82).bind fun t298 => (some t298)) else (some false)) else (some false)) else ((cutplaneref01_Sub.f kj82 l0 l1).bind fun t299 => ((cutplaneref01_Same.f kj82 t283 t299).bind fun t302 => (if t302 = true then (cutplanelaw01_NatSums.j8 kj82 l0 l1 t255 t258 t279 t283 (t286 == 0)) else (cutplanelaw01_NatSums.j8 kj82 l0 l1 t255 t258 t279 t283 false))))) = some r := H
                                              have A98 := Aside0.mk A980
                                              clear A980
                                              by_cases c99 : t297 < 0
                                              · rw [if_pos c99] at H
                                                have c99b0 : decide (t297 < 0) = true := decide_eq_true c99
                                                clear c99
                                                by_cases c100 : (t283.length : Int) = 0
                                                · rw [if_pos c100] at H
                                                  have c100b0 : ((t283.length : Int) == 0) = true := beq_iff_eq.mpr c100
                                                  have c100b1 : ((t283.length : Int) != 0) = false := bne_eq_false_iff_eq.mpr c100
                                                  clear c100
                                                  by_cases c101 : t286 = 10
                                                  · rw [if_pos c101] at H
                                                    have c101b0 : (t286 == 10) = true := beq_iff_eq.mpr c101
                                                    have c101b1 : (t286 != 10) = false := bne_eq_false_iff_eq.mpr c101
                                                    clear c101
                                                    replace H := Option.bind_eq_some_iff.mp H
                                                    obtain ⟨t298, A1020, H⟩ := H
                                                    replace H : (some t298) = some r := H
                                                    have A102 := Aside0.mk A1020
                                                    clear A1020
                                                    as_aux_lemma =>
                                                      obtain rfl := Option.some.inj H
                                                      go_wp2_with (first | ((with_reducible refine gate_callee (f := 24) rfl ?_); refine goesL_ (some 172) rfl rfl Try.func24 (by kernel_rfl) rfl #[.slice A0 l0.length c0, .slice A1 l1.length c1] rfl (by (try simp only [List.map_toArray, List.map_cons, List.map_nil]); first | done | rfl | (simp only [List.length_drop, List.length_take]; rfl)) ?_; (with_reducible refine (cutplaneref01_Cmp.calls kj82 _ _ l0 _ _ l1 t297 _ ?side1 ?side2 ?side3 ?side4 A98.out).mono ?_); (case side1 => repeat (first | exact (Kd.C_below HR0.out HB.out) | (with_reducible refine Kd.C_alloc ?_ _) | (with_reducible refine Kd.C_drewN ?_ _) | (with_reducible refine Kd.C_drew ?_))); (case side2 => exact HC0.out); (case side3 => repeat (first | exact (Kd.C_below HR1.out HB.out) | (with_reducible refine Kd.C_alloc ?_ _) | (with_reducible refine Kd.C_drewN ?_ _) | (with_reducible refine Kd.C_drew ?_))); (case side4 => exact HC1.out); rintro e w' ⟨rfl, ⟨nd, rfl⟩⟩; refine ⟨_, rfl, ?_⟩; obtain ⟨Ao103, co103, eo103⟩ := Kd.R_slice HO_16.out; subst eo103) | (go_at_call 13; (with_reducible refine (cutplanelaw01_known.calls kj82  t298 _ A102.out).mono ?_); rintro e w104 ⟨rfl, hb⟩; have n0_ := Aside0.mk (Kd.R_below (by (with_reducible repeat (first | apply Kd.R_alloc | apply Kd.R_drewN | apply Kd.R_drew)); exact HO_7.out) hb); have n1_ := Aside0.mk (Kd.R_below (by (with_reducible repeat (first | apply Kd.R_alloc | apply Kd.R_drewN | apply Kd.R_drew)); exact HO_8.out) hb); have n2_ := Aside0.mk (Kd.R_below (by (with_reducible repeat (first | apply Kd.R_alloc | apply Kd.R_drewN | apply Kd.R_drew)); exact HO_14.out) hb); have n3_ := Aside0.mk (Kd.R_below (by (with_reducible repeat (first | apply Kd.R_alloc | apply Kd.R_drewN | apply Kd.R_drew)); exact HO_16.out) hb); have n4_ := Aside0.mk (below_step (by repeat (first | (with_reducible first | exact HB.out | apply below_alloc | apply pw_below_drewN | apply below_drew1) | exact HB.out)) hb); clear HO_7; clear HO_8; clear HO_14; clear HO_16; clear HB; have HO_7 := n0_; have HO_8 := n1_; have HO_14 := n2_; have HO_16 := n3_; have HB := n4_; clear n0_ n1_ n2_ n3_ n4_; (try clear hb); (try clear hb2); (try clear hk); (try clear hi)))
                                                      go_ret
                                                      exact ⟨by first | rfl | (simp [errW_none, errW_some] <;> rfl) | (simp [*, errW_none, errW_some] <;> rfl), by repeat (first | (with_reducible first | exact HB.out | apply below_alloc | apply pw_below_drewN | apply below_drew1) | exact HB.out)⟩
                                                  · rw [if_neg c101] at H
                                                    have c101b0 : (t286 == 10) = false := beq_eq_false_iff_ne.mpr c101
                                                    have c101b1 : (t286 != 10) = true := bne_iff_ne.mpr c101
                                                    as_aux_lemma =>
                                                      obtain rfl := Option.some.inj H
                                                      go_wp2_with (first | ((with_reducible refine gate_callee (f := 24) rfl ?_); refine goesL_ (some 172) rfl rfl Try.func24 (by kernel_rfl) rfl #[.slice A0 l0.length c0, .slice A1 l1.length c1] rfl (by (try simp only [List.map_toArray, List.map_cons, List.map_nil]); first | done | rfl | (simp only [List.length_drop, List.length_take]; rfl)) ?_; (with_reducible refine (cutplaneref01_Cmp.calls kj82 _ _ l0 _ _ l1 t297 _ ?side1 ?side2 ?side3 ?side4 A98.out).mono ?_); (case side1 => repeat (first | exact (Kd.C_below HR0.out HB.out) | (with_reducible refine Kd.C_alloc ?_ _) | (with_reducible refine Kd.C_drewN ?_ _) | (with_reducible refine Kd.C_drew ?_))); (case side2 => exact HC0.out); (case side3 => repeat (first | exact (Kd.C_below HR1.out HB.out) | (with_reducible refine Kd.C_alloc ?_ _) | (with_reducible refine Kd.C_drewN ?_ _) | (with_reducible refine Kd.C_drew ?_))); (case side4 => exact HC1.out); rintro e w' ⟨rfl, ⟨nd, rfl⟩⟩; refine ⟨_, rfl, ?_⟩; obtain ⟨Ao105, co105, eo105⟩ := Kd.R_slice HO_16.out; subst eo105))
                                                      go_ret
                                                      exact ⟨by first | rfl | (simp [errW_none, errW_some] <;> rfl) | (simp [*, errW_none, errW_some] <;> rfl), by repeat (first | (with_reducible first | exact HB.out | apply below_alloc | apply pw_below_drewN | apply below_drew1) | exact HB.out)⟩
                                                · rw [if_neg c100] at H
                                                  have c100b0 : ((t283.length : Int) == 0) = false := beq_eq_false_iff_ne.mpr c100
                                                  have c100b1 : ((t283.length : Int) != 0) = true := bne_iff_ne.mpr c100
                                                  have c100b2 : ¬ (t283 = []) := fun h_ => c100 (by rw [h_]; rfl)
                                                  as_aux_lemma =>
                                                    obtain rfl := Option.some.inj H
                                                    go_wp2_with (first | ((with_reducible refine gate_callee (f := 24) rfl ?_); refine goesL_ (some 172) rfl rfl Try.func24 (by kernel_rfl) rfl #[.slice A0 l0.length c0, .slice A1 l1.length c1] rfl (by (try simp only [List.map_toArray, List.map_cons, List.map_nil]); first | done | rfl | (simp only [List.length_drop, List.length_take]; rfl)) ?_; (with_reducible refine (cutplaneref01_Cmp.calls kj82 _ _ l0 _ _ l1 t297 _ ?side1 ?side2 ?side3 ?side4 A98.out).mono ?_); (case side1 => repeat (first | exact (Kd.C_below HR0.out HB.out) | (with_reducible refine Kd.C_alloc ?_ _) | (with_reducible refine Kd.C_drewN ?_ _) | (with_reducible refine Kd.C_drew ?_))); (case side2 => exact HC0.out); (case side3 => repeat (first | exact (Kd.C_below HR1.out HB.out) | (with_reducible refine Kd.C_alloc ?_ _) | (with_reducible refine Kd.C_drewN ?_ _) | (with_reducible refine Kd.C_drew ?_))); (case side4 => exact HC1.out); rintro e w' ⟨rfl, ⟨nd, rfl⟩⟩; refine ⟨_, rfl, ?_⟩; obtain ⟨Ao106, co106, eo106⟩ := Kd.R_slice HO_16.out; subst eo106))
                                                    go_ret
                                                    exact ⟨by first | rfl | (simp [errW_none, errW_some] <;> rfl) | (simp [*, errW_none, errW_some] <;> rfl), by repeat (first | (with_reducible first | exact HB.out | apply below_alloc | apply pw_below_drewN | apply below_drew1) | exact HB.out)⟩
                                              · rw [if_neg c99] at H
                                                have c99b0 : decide (t297 < 0) = false := decide_eq_false c99
                                                clear c99
                                                have HC107 := Aside0.mk H
                                                clear H
                                                go_upto_region 27 with (first | ((with_reducible refine gate_callee (f := 24) rfl ?_); refine goesL_ (some 172) rfl rfl Try.func24 (by kernel_rfl) rfl #[.slice A0 l0.length c0, .slice A1 l1.length c1] rfl (by (try simp only [List.map_toArray, List.map_cons, List.map_nil]); first | done | rfl | (simp only [List.length_drop, List.length_take]; rfl)) ?_; (with_reducible refine (cutplaneref01_Cmp.calls kj82 _ _ l0 _ _ l1 t297 _ ?side1 ?side2 ?side3 ?side4 A98.out).mono ?_); (case side1 => repeat (first | exact (Kd.C_below HR0.out HB.out) | (with_reducible refine Kd.C_alloc ?_ _) | (with_reducible refine Kd.C_drewN ?_ _) | (with_reducible refine Kd.C_drew ?_))); (case side2 => exact HC0.out); (case side3 => repeat (first | exact (Kd.C_below HR1.out HB.out) | (with_reducible refine Kd.C_alloc ?_ _) | (with_reducible refine Kd.C_drewN ?_ _) | (with_reducible refine Kd.C_drew ?_))); (case side4 => exact HC1.out); rintro e w' ⟨rfl, ⟨nd, rfl⟩⟩; refine ⟨_, rfl, ?_⟩))
                                                (try simp only [Act.put, List.setIfInBounds_toArray, List.set_cons_zero, List.set_cons_succ])
                                                go_cut [19] (fun v19 wc => ∃ (kq : Nat) (x19_106 : Bool), v19 = .bool x19_106 ∧ Aside0 (cutplanelaw01_NatSums.j8 kq l0 l1 t255 t258 t279 t283 x19_106 = some r) ∧ Aside0 (kq ≤ kj82) ∧ Aside0 (Kd.R (Kd.int .u32) 42 wc w.heap.size (fun k_ => some k_ ≠ ((.slice Ao49 t258.length co49) : Value).ownBlock ∧ some k_ ≠ (v280 : Value).ownBlock ∧ some k_ ≠ (v284 : Value).ownBlock) (.slice Ao31 t255.length co31) t255) ∧ Aside0 (Kd.R (Kd.int .u32) 42 wc w.heap.size (fun k_ => some k_ ≠ ((.slice Ao31 t255.length co31) : Value).ownBlock ∧ some k_ ≠ (v280 : Value).ownBlock ∧ some k_ ≠ (v284 : Value).ownBlock) (.slice Ao49 t258.length co49) t258) ∧ Aside0 (Kd.R (Kd.int .u32) 42 wc w.heap.size (fun k_ => some k_ ≠ ((.slice Ao31 t255.length co31) : Value).ownBlock ∧ some k_ ≠ ((.slice Ao49 t258.length co49) : Value).ownBlock ∧ some k_ ≠ (v284 : Value).ownBlock) v280 t279) ∧ Aside0 (Kd.R (Kd.int .u32) 42 wc w.heap.size (fun k_ => some k_ ≠ ((.slice Ao31 t255.length co31) : Value).ownBlock ∧ some k_ ≠ ((.slice Ao49 t258.length co49) : Value).ownBlock ∧ some k_ ≠ (v280 : Value).ownBlock) v284 t283) ∧ Aside0 (Below w.heap.size w wc))
                                                case first =>
                                                  have H := HC107.out
                                                  clear HC107
                                                  replace H := Option.bind_eq_some_iff.mp H
                                                  obtain ⟨t299, A1080, H⟩ := H
                                                  replace H : ((cutplaneref01_Same.f kj82 t283 t299).bind fun t302 => (if t302 = true then (cutplanelaw01_NatSums.j8 kj82 l0 l1 t255 t258 t279 t283 (t286 == 0)) else (cutplanelaw01_NatSums.j8 kj82 l0 l1 t255 t258 t279 t283 false))) = some r := H
                                                  have A108 := Aside0.mk A1080
                                                  clear A1080
                                                  replace H := Option.bind_eq_some_iff.mp H
                                                  obtain ⟨t302, A1090, H⟩ := H
                                                  replace H : (if t302 = true then (cutplanelaw01_NatSums.j8 kj82 l0 l1 t255 t258 t279 t283 (t286 == 0)) else (cutplanelaw01_NatSums.j8 kj82 l0 l1 t255 t258 t279 t283 false)) = some r := H
                                                  have A109 := Aside0.mk A1090
                                                  clear A1090
                                                  by_cases c110 : t302 = true
                                                  · subst c110
                                                    have H1 : (cutplanelaw01_NatSums.j8 kj82 l0 l1 t255 t258 t279 t283 (t286 == 0)) = some r := by rw [if_pos rfl] at H; exact H
                                                    clear H
                                                    have H := H1
                                                    clear H1
                                                    as_aux_lemma =>
                                                      have H' := Aside0.mk H
                                                      clear H
                                                      go_wp2_with (first | ((with_reducible refine gate_callee (f := 26) rfl ?_); refine goesL_ (some 187) rfl rfl Try.func26 (by kernel_rfl) rfl #[.slice A0 l0.length c0, .slice A1 l1.length c1] rfl (by (try simp only [List.map_toArray, List.map_cons, List.map_nil]); first | done | rfl | (simp only [List.length_drop, List.length_take]; rfl)) ?_; (with_reducible refine (cutplaneref01_Sub.calls kj82 _ _ l0 _ _ l1 t299 _ ?side1 ?side2 ?side3 ?side4 A108.out).mono ?_); (case side1 => repeat (first | exact (Kd.C_below HR0.out HB.out) | (with_reducible refine Kd.C_alloc ?_ _) | (with_reducible refine Kd.C_drewN ?_ _) | (with_reducible refine Kd.C_drew ?_))); (case side2 => exact HC0.out); (case side3 => repeat (first | exact (Kd.C_below HR1.out HB.out) | (with_reducible refine Kd.C_alloc ?_ _) | (with_reducible refine Kd.C_drewN ?_ _) | (with_reducible refine Kd.C_drew ?_))); (case side4 => exact HC1.out); rintro e w111 ⟨v300, rfl, ho0, hb⟩; refine ⟨_, rfl, ?_⟩; have n0_ := Aside0.mk (Kd.R_elder' (by (with_reducible repeat (first | apply Kd.R_alloc | apply Kd.R_drewN | apply Kd.R_drew)); exact HO_7.out) (Kd.R_base ho0) hb); have n1_ := Aside0.mk (Kd.R_elder' (by (with_reducible repeat (first | apply Kd.R_alloc | apply Kd.R_drewN | apply Kd.R_drew)); exact HO_8.out) (Kd.R_base ho0) hb); have n2_ := Aside0.mk (Kd.R_elder' (by (with_reducible repeat (first | apply Kd.R_alloc | apply Kd.R_drewN | apply Kd.R_drew)); exact HO_14.out) (Kd.R_base ho0) hb); have n3_ := Aside0.mk (Kd.R_elder' (by (with_reducible repeat (first | apply Kd.R_alloc | apply Kd.R_drewN | apply Kd.R_drew)); exact HO_16.out) (Kd.R_base ho0) hb); have n4_ := Aside0.mk (Kd.R_lower (Kd.R_new' (Kd.R_new' (Kd.R_new' (Kd.R_new' ho0 (Kd.R_lt (by (with_reducible repeat (first | apply Kd.R_alloc | apply Kd.R_drewN | apply Kd.R_drew)); exact HO_7.out))) (Kd.R_lt (by (with_reducible repeat (first | apply Kd.R_alloc | apply Kd.R_drewN | apply Kd.R_drew)); exact HO_8.out))) (Kd.R_lt (by (with_reducible repeat (first | apply Kd.R_alloc | apply Kd.R_drewN | apply Kd.R_drew)); exact HO_14.out))) (Kd.R_lt (by (with_reducible repeat (first | apply Kd.R_alloc | apply Kd.R_drewN | apply Kd.R_drew)); exact HO_16.out))) (below_size (by repeat (first | (with_reducible first | exact HB.out | apply below_alloc | apply pw_below_drewN | apply below_drew1) | exact HB.out)))); have n5_ := Aside0.mk (below_step (by repeat (first | (with_reducible first | exact HB.out | apply below_alloc | apply pw_below_drewN | apply below_drew1) | exact HB.out)) hb); clear HO_7; clear HO_8; clear HO_14; clear HO_16; clear HB; have HO_7 := n0_; have HO_8 := n1_; have HO_14 := n2_; have HO_16 := n3_; have HO301 := n4_; have HB := n5_; clear n0_ n1_ n2_ n3_ n4_ n5_; (try clear hb); (try clear hb2); (try clear hk); (try clear hi); (try clear ho0); obtain ⟨Ao112, co112, eo112⟩ := Kd.R_slice HO_16.out; subst eo112; obtain ⟨Ao113, co113, eo113⟩ := Kd.R_slice HO301.out; subst eo113) | ((with_reducible refine gate_callee (f := 17) rfl ?_); refine goesL_ (some 188) rfl rfl Try.func17 (by kernel_rfl) rfl #[.slice Ao112 t283.length co112, .slice Ao113 t299.length co113] rfl (by (try simp only [List.map_toArray, List.map_cons, List.map_nil]); first | done | rfl | (simp only [List.length_drop, List.length_take]; rfl)) ?_; (with_reducible refine (cutplaneref01_Same.calls kj82 _ _ t283 _ _ t299 true _ ?side1 ?side2 ?side3 ?side4 A109.out).mono ?_); (case side1 => repeat (first | exact (Kd.R_reads' HO_16.out).2.2 | (with_reducible refine Kd.C_alloc ?_ _) | (with_reducible refine Kd.C_drewN ?_ _) | (with_reducible refine Kd.C_drew ?_))); (case side2 => exact (Kd.R_reads' HO_16.out).2.1); (case side3 => repeat (first | exact (Kd.R_reads' HO301.out).2.2 | (with_reducible refine Kd.C_alloc ?_ _) | (with_reducible refine Kd.C_drewN ?_ _) | (with_reducible refine Kd.C_drew ?_))); (case side4 => exact (Kd.R_reads' HO301.out).2.1); rintro e w' ⟨rfl, ⟨nd, rfl⟩⟩; refine ⟨_, rfl, ?_⟩))
                                                      go_meet
                                                      case rel => exact ⟨_, ((t286 == 0)), (by first | rfl | (simp; done) | (simp [*]; done)), H', ⟨by have := HJ3.out; have := HJ12.out; have := HJ29.out; have := HJ33.out; have := HJ47.out; have := HJ56.out; have := HJ77.out; have := HJ82.out; first | omega | exact Nat.le_refl _⟩, ⟨by (with_reducible repeat (first | apply Kd.R_alloc | apply Kd.R_drewN | apply Kd.R_drew)); exact Kd.R_mono HO_7.out (fun _ hk => ⟨hk.1.1, ⟨hk.1.2.1, hk.1.2.2⟩⟩)⟩, ⟨by (with_reducible repeat (first | apply Kd.R_alloc | apply Kd.R_drewN | apply Kd.R_drew)); exact Kd.R_mono HO_8.out (fun _ hk => ⟨hk.1.1, ⟨hk.1.2.1, hk.1.2.2⟩⟩)⟩, ⟨by (with_reducible repeat (first | apply Kd.R_alloc | apply Kd.R_drewN | apply Kd.R_drew)); exact Kd.R_mono HO_14.out (fun _ hk => ⟨hk.1.1, ⟨hk.1.2.1, hk.1.2.2⟩⟩)⟩, ⟨by (with_reducible repeat (first | apply Kd.R_alloc | apply Kd.R_drewN | apply Kd.R_drew)); exact Kd.R_mono HO_16.out (fun _ hk => ⟨hk.1.1, ⟨hk.1.2.1, hk.1.2.2⟩⟩)⟩, ⟨by repeat (first | (with_reducible first | exact HB.out | apply below_alloc | apply pw_below_drewN | apply below_drew1) | exact HB.out)⟩⟩
                                                  · replace c110 := Bool.eq_false_iff.mpr c110
                                                    subst c110
                                                    have H1 : (cutplanelaw01_NatSums.j8 kj82 l0 l1 t255 t258 t279 t283 false) = some r := by rw [if_neg (show ¬ (false = true) by decide)] at H; exact H
                                                    clear H
                                                    have H := H1
                                                    clear H1
                                                    as_aux_lemma =>
                                                      have H' := Aside0.mk H
                                                      clear H
                                                      go_wp2_with (first | ((with_reducible refine gate_callee (f := 26) rfl ?_); refine goesL_ (some 187) rfl rfl Try.func26 (by kernel_rfl) rfl #[.slice A0 l0.length c0, .slice A1 l1.length c1] rfl (by (try simp only [List.map_toArray, List.map_cons, List.map_nil]); first | done | rfl | (simp only [List.length_drop, List.length_take]; rfl)) ?_; (with_reducible refine (cutplaneref01_Sub.calls kj82 _ _ l0 _ _ l1 t299 _ ?side1 ?side2 ?side3 ?side4 A108.out).mono ?_); (case side1 => repeat (first | exact (Kd.C_below HR0.out HB.out) | (with_reducible refine Kd.C_alloc ?_ _) | (with_reducible refine Kd.C_drewN ?_ _) | (with_reducible refine Kd.C_drew ?_))); (case side2 => exact HC0.out); (case side3 => repeat (first | exact (Kd.C_below HR1.out HB.out) | (with_reducible refine Kd.C_alloc ?_ _) | (with_reducible refine Kd.C_drewN ?_ _) | (with_reducible refine Kd.C_drew ?_))); (case side4 => exact HC1.out); rintro e w114 ⟨v300, rfl, ho0, hb⟩; refine ⟨_, rfl, ?_⟩; have n0_ := Aside0.mk (Kd.R_elder' (by (with_reducible repeat (first | apply Kd.R_alloc | apply Kd.R_drewN | apply Kd.R_drew)); exact HO_7.out) (Kd.R_base ho0) hb); have n1_ := Aside0.mk (Kd.R_elder' (by (with_reducible repeat (first | apply Kd.R_alloc | apply Kd.R_drewN | apply Kd.R_drew)); exact HO_8.out) (Kd.R_base ho0) hb); have n2_ := Aside0.mk (Kd.R_elder' (by (with_reducible repeat (first | apply Kd.R_alloc | apply Kd.R_drewN | apply Kd.R_drew)); exact HO_14.out) (Kd.R_base ho0) hb); have n3_ := Aside0.mk (Kd.R_elder' (by (with_reducible repeat (first | apply Kd.R_alloc | apply Kd.R_drewN | apply Kd.R_drew)); exact HO_16.out) (Kd.R_base ho0) hb); have n4_ := Aside0.mk (Kd.R_lower (Kd.R_new' (Kd.R_new' (Kd.R_new' (Kd.R_new' ho0 (Kd.R_lt (by (with_reducible repeat (first | apply Kd.R_alloc | apply Kd.R_drewN | apply Kd.R_drew)); exact HO_7.out))) (Kd.R_lt (by (with_reducible repeat (first | apply Kd.R_alloc | apply Kd.R_drewN | apply Kd.R_drew)); exact HO_8.out))) (Kd.R_lt (by (with_reducible repeat (first | apply Kd.R_alloc | apply Kd.R_drewN | apply Kd.R_drew)); exact HO_14.out))) (Kd.R_lt (by (with_reducible repeat (first | apply Kd.R_alloc | apply Kd.R_drewN | apply Kd.R_drew)); exact HO_16.out))) (below_size (by repeat (first | (with_reducible first | exact HB.out | apply below_alloc | apply pw_below_drewN | apply below_drew1) | exact HB.out)))); have n5_ := Aside0.mk (below_step (by repeat (first | (with_reducible first | exact HB.out | apply below_alloc | apply pw_below_drewN | apply below_drew1) | exact HB.out)) hb); clear HO_7; clear HO_8; clear HO_14; clear HO_16; clear HB; have HO_7 := n0_; have HO_8 := n1_; have HO_14 := n2_; have HO_16 := n3_; have HO301 := n4_; have HB := n5_; clear n0_ n1_ n2_ n3_ n4_ n5_; (try clear hb); (try clear hb2); (try clear hk); (try clear hi); (try clear ho0); obtain ⟨Ao115, co115, eo115⟩ := Kd.R_slice HO_16.out; subst eo115; obtain ⟨Ao116, co116, eo116⟩ := Kd.R_slice HO301.out; subst eo116) | ((with_reducible refine gate_callee (f := 17) rfl ?_); refine goesL_ (some 188) rfl rfl Try.func17 (by kernel_rfl) rfl #[.slice Ao115 t283.length co115, .slice Ao116 t299.length co116] rfl (by (try simp only [List.map_toArray, List.map_cons, List.map_nil]); first | done | rfl | (simp only [List.length_drop, List.length_take]; rfl)) ?_; (with_reducible refine (cutplaneref01_Same.calls kj82 _ _ t283 _ _ t299 false _ ?side1 ?side2 ?side3 ?side4 A109.out).mono ?_); (case side1 => repeat (first | exact (Kd.R_reads' HO_16.out).2.2 | (with_reducible refine Kd.C_alloc ?_ _) | (with_reducible refine Kd.C_drewN ?_ _) | (with_reducible refine Kd.C_drew ?_))); (case side2 => exact (Kd.R_reads' HO_16.out).2.1); (case side3 => repeat (first | exact (Kd.R_reads' HO301.out).2.2 | (with_reducible refine Kd.C_alloc ?_ _) | (with_reducible refine Kd.C_drewN ?_ _) | (with_reducible refine Kd.C_drew ?_))); (case side4 => exact (Kd.R_reads' HO301.out).2.1); rintro e w' ⟨rfl, ⟨nd, rfl⟩⟩; refine ⟨_, rfl, ?_⟩))
                                                      go_meet
                                                      case rel => exact ⟨_, (false), (by first | rfl | (simp; done) | (simp [*]; done)), H', ⟨by have := HJ3.out; have := HJ12.out; have := HJ29.out; have := HJ33.out; have := HJ47.out; have := HJ56.out; have := HJ77.out; have := HJ82.out; first | omega | exact Nat.le_refl _⟩, ⟨by (with_reducible repeat (first | apply Kd.R_alloc | apply Kd.R_drewN | apply Kd.R_drew)); exact Kd.R_mono HO_7.out (fun _ hk => ⟨hk.1.1, ⟨hk.1.2.1, hk.1.2.2⟩⟩)⟩, ⟨by (with_reducible repeat (first | apply Kd.R_alloc | apply Kd.R_drewN | apply Kd.R_drew)); exact Kd.R_mono HO_8.out (fun _ hk => ⟨hk.1.1, ⟨hk.1.2.1, hk.1.2.2⟩⟩)⟩, ⟨by (with_reducible repeat (first | apply Kd.R_alloc | apply Kd.R_drewN | apply Kd.R_drew)); exact Kd.R_mono HO_14.out (fun _ hk => ⟨hk.1.1, ⟨hk.1.2.1, hk.1.2.2⟩⟩)⟩, ⟨by (with_reducible repeat (first | apply Kd.R_alloc | apply Kd.R_drewN | apply Kd.R_drew)); exact Kd.R_mono HO_16.out (fun _ hk => ⟨hk.1.1, ⟨hk.1.2.1, hk.1.2.2⟩⟩)⟩, ⟨by repeat (first | (with_reducible first | exact HB.out | apply below_alloc | apply pw_below_drewN | apply below_drew1) | exact HB.out)⟩⟩
                                                case rest =>
                                                  clear HC107
                                                  try clear c1
                                                  try clear c2
                                                  try clear p2
                                                  try clear c3
                                                  try clear c4
                                                  try clear c5
                                                  try clear c6
                                                  try clear c8
                                                  try clear c9
                                                  try clear c10
                                                  try clear c11
                                                  try clear c12
                                                  try clear c13
                                                  try clear c14
                                                  try clear c15
                                                  try clear c16
                                                  try clear c17
                                                  try clear c18
                                                  try clear c18b0
                                                  try clear c18b1
                                                  try clear c18b2
                                                  try clear c20
                                                  try clear c21
                                                  try clear c22
                                                  try clear c23
                                                  try clear c24
                                                  try clear c25
                                                  try clear c26
                                                  try clear c28
                                                  try clear c33
                                                  try clear c35
                                                  try clear c35b0
                                                  try clear c35b1
                                                  try clear c35b2
                                                  try clear c36
                                                  try clear c39
                                                  try clear c44
                                                  try clear c54
                                                  try clear c56
                                                  try clear c59
                                                  try clear c61
                                                  try clear c62
                                                  try clear c62b0
                                                  try clear c62b1
                                                  try clear c63
                                                  try clear c63b0
                                                  try clear c63b1
                                                  try clear c64
                                                  try clear c64b0
                                                  try clear c64b1
                                                  try clear c64b2
                                                  try clear c65
                                                  try clear c65b0
                                                  try clear c65b1
                                                  try clear c66
                                                  try clear c66b0
                                                  try clear c66b1
                                                  try clear c66b2
                                                  try clear c67
                                                  try clear c67b0
                                                  try clear c67b1
                                                  try clear c80
                                                  try clear c80b0
                                                  try clear c80b1
                                                  try clear c81
                                                  try clear c86
                                                  try clear c86b0
                                                  try clear c86b1
                                                  try clear c87
                                                  try clear c87b0
                                                  try clear c87b1
                                                  try clear c87b2
                                                  try clear c88
                                                  try clear c88b0
                                                  try clear c88b1
                                                  try clear c93
                                                  try clear c94
                                                  try clear c94b0
                                                  try clear c94b1
                                                  try clear c99
                                                  try clear c99b0
                                                  try clear c100
                                                  try clear c100b0
                                                  try clear c100b1
                                                  try clear c100b2
                                                  try clear c101
                                                  try clear c101b0
                                                  try clear c101b1
                                                  try clear c110
                                                  try clear p2
                                                  obtain ⟨kq, x19_106, rfl, HA, HJ106, HO_7, HO_8, HO_14, HO_16, HB⟩ := hcut
                                                  cases kq with
                                                  | zero => exact absurd HA.out (by simp [cutplanelaw01_NatSums.j8])
                                                  | succ kj106 =>
                                                    have H := HA.out
                                                    clear HA
                                                    simp only [cutplanelaw01_NatSums.j8] at H
                                                    replace H := Option.bind_eq_some_iff.mp H
                                                    obtain ⟨t303, A1170, H⟩ := H
                                                    replace H : ((cutplanelaw01_marked.f kj106 t283).bind fun t304 => (if x19_106 = true then ((cutplaneref01_Same.f kj106 t255 l0).bind fun t305 => (if t305 = true then ((cutplaneref01_Same.f kj106 t258 l1).bind fun t306 => (if t306 = true then ((cutplanelaw01_known.f kj106).bind fun t307 => (some t307)) else (some false))) else (some false))) else (some false))) = some r := H
                                                    have A117 := Aside0.mk A1170
                                                    clear A1170
                                                    replace H := Option.bind_eq_some_iff.mp H
                                                    obtain ⟨t304, A1180, H⟩ := H
                                                    replace H : (if x19_106 = true then ((cutplaneref01_Same.f kj106 t255 l0).bind fun t305 => (if t305 = true then ((cutplaneref01_Same.f kj106 t258 l1).bind fun t306 => (if t306 = true then ((cutplanelaw01_known.f kj106).bind fun t307 => (some t307)) else (some false))) else (some false))) else (some false)) = some r := H
                                                    have A118 := Aside0.mk A1180
                                                    clear A1180
                                                    by_cases c119 : x19_106 = true
                                                    · subst c119
                                                      have H1 : ((cutplaneref01_Same.f kj106 t255 l0).bind fun t305 => (if t305 = true then ((cutplaneref01_Same.f kj106 t258 l1).bind fun t306 => (if t306 = true then ((cutplanelaw01_known.f kj106).bind fun t307 => (some t307)) else (some false))) else (some false))) = some r := by rw [if_pos rfl] at H; exact H
                                                      clear H
                                                      have H := H1
                                                      clear H1
                                                      replace H := Option.bind_eq_some_iff.mp H
                                                      obtain ⟨t305, A1200, H⟩ := H
                                                      replace H : (if t305 = true then ((cutplaneref01_Same.f kj106 t258 l1).bind fun t306 => (if t306 = true then ((cutplanelaw01_known.f kj106).bind fun t307 => (some t307)) else (some false))) else (some false)) = some r := H
                                                      have A120 := Aside0.mk A1200
                                                      clear A1200
                                                      by_cases c121 : t305 = true
                                                      · subst c121
                                                        have H1 : ((cutplaneref01_Same.f kj106 t258 l1).bind fun t306 => (if t306 = true then ((cutplanelaw01_known.f kj106).bind fun t307 => (some t307)) else (some false))) = some r := by rw [if_pos rfl] at H; exact H
                                                        clear H
                                                        have H := H1
                                                        clear H1
                                                        replace H := Option.bind_eq_some_iff.mp H
                                                        obtain ⟨t306, A1220, H⟩ := H
                                                        replace H : (if t306 = true then ((cutplanelaw01_known.f kj106).bind fun t307 => (some t307)) else (some false)) = some r := H
                                                        have A122 := Aside0.mk A1220
                                                        clear A1220
                                                        by_cases c123 : t306 = true
                                                        · subst c123
                                                          have H1 : ((cutplanelaw01_known.f kj106).bind fun t307 => (some t307)) = some r := by rw [if_pos rfl] at H; exact H
                                                          clear H
                                                          have H := H1
                                                          clear H1
                                                          replace H := Option.bind_eq_some_iff.mp H
                                                          obtain ⟨t307, A1240, H⟩ := H
                                                          replace H : (some t307) = some r := H
                                                          have A124 := Aside0.mk A1240
                                                          clear A1240
                                                          as_aux_lemma =>
                                                            obtain rfl := Option.some.inj H
                                                            obtain ⟨Ao125, co125, eo125⟩ := Kd.R_slice HO_14.out
                                                            subst eo125
                                                            go_wp2_with (first | ((with_reducible refine gate_callee (f := 27) rfl ?_); refine goesL_ (some 194) rfl rfl Try.func27 (by kernel_rfl) rfl #[.slice Ao125 t279.length co125] rfl (by (try simp only [List.map_toArray, List.map_cons, List.map_nil]); first | done | rfl | (simp only [List.length_drop, List.length_take]; rfl)) ?_; (with_reducible refine (cutplanelaw01_marked.calls kj106 (fun k_ => some k_ = (.slice Ao125 t279.length co125 : Value).ownBlock) (.slice Ao125 t279.length co125) t279 t303 w _ ?side1 ?side2 A117.out).mono ?_); (case side1 => repeat (first | (with_reducible first | exact HB.out | apply below_alloc | apply pw_below_drewN | apply below_drew1) | exact HB.out)); (case side2 => exact Kd.R_tight rfl HO_14.out); rintro e w126 ⟨rfl, hy0, hb, hkp⟩; refine ⟨_, rfl, ?_⟩; have n0_ := Aside0.mk (Kd.R_mono (ok' := fun k_ => some k_ ≠ (.slice Ao49 t258.length co49 : Value).ownBlock ∧ some k_ ≠ (.slice Ao125 t279.length co125 : Value).ownBlock ∧ some k_ ≠ (v284 : Value).ownBlock) (Kd.R_keptB (HO_7.out) hkp (fun k_ hk_ hs_ => (hk_.2.1) hs_)) (fun k_ hk_ => ⟨hk_.1.1, hk_.1.2.1, hk_.1.2.2⟩)); have n1_ := Aside0.mk (Kd.R_mono (ok' := fun k_ => some k_ ≠ (.slice Ao31 t255.length co31 : Value).ownBlock ∧ some k_ ≠ (.slice Ao125 t279.length co125 : Value).ownBlock ∧ some k_ ≠ (v284 : Value).ownBlock) (Kd.R_keptB (HO_8.out) hkp (fun k_ hk_ hs_ => (hk_.2.1) hs_)) (fun k_ hk_ => ⟨hk_.1.1, hk_.1.2.1, hk_.1.2.2⟩)); have n2_ := Aside0.mk (Kd.R_reok rfl hy0 (fun k_ e_ => HO_14.out.1 k_ e_)); have n3_ := Aside0.mk (Kd.R_mono (ok' := fun k_ => some k_ ≠ (.slice Ao31 t255.length co31 : Value).ownBlock ∧ some k_ ≠ (.slice Ao49 t258.length co49 : Value).ownBlock ∧ some k_ ≠ (.slice Ao125 t279.length co125 : Value).ownBlock) (Kd.R_keptB (HO_16.out) hkp (fun k_ hk_ hs_ => (hk_.2.2) hs_)) (fun k_ hk_ => ⟨hk_.1.1, hk_.1.2.1, hk_.1.2.2⟩)); have n4_ := Aside0.mk (hb); clear HO_7; clear HO_8; clear HO_14; clear HO_16; clear HB; have HO_7 := n0_; have HO_8 := n1_; have HO_14 := n2_; have HO_16 := n3_; have HB := n4_; clear n0_ n1_ n2_ n3_ n4_; (try clear hb); (try clear hkp); (try clear hy0); obtain ⟨Ao127, co127, eo127⟩ := Kd.R_slice HO_16.out; subst eo127) | ((with_reducible refine gate_callee (f := 27) rfl ?_); refine goesL_ (some 196) rfl rfl Try.func27 (by kernel_rfl) rfl #[.slice Ao127 t283.length co127] rfl (by (try simp only [List.map_toArray, List.map_cons, List.map_nil]); first | done | rfl | (simp only [List.length_drop, List.length_take]; rfl)) ?_; (with_reducible refine (cutplanelaw01_marked.calls kj106 (fun k_ => some k_ = (.slice Ao127 t283.length co127 : Value).ownBlock) (.slice Ao127 t283.length co127) t283 t304 w _ ?side1 ?side2 A118.out).mono ?_); (case side1 => repeat (first | (with_reducible first | exact HB.out | apply below_alloc | apply pw_below_drewN | apply below_drew1) | exact HB.out)); (case side2 => exact Kd.R_tight rfl HO_16.out); rintro e w128 ⟨rfl, hy0, hb, hkp⟩; refine ⟨_, rfl, ?_⟩; have n0_ := Aside0.mk (Kd.R_mono (ok' := fun k_ => some k_ ≠ (.slice Ao49 t258.length co49 : Value).ownBlock ∧ some k_ ≠ (.slice Ao125 t279.length co125 : Value).ownBlock ∧ some k_ ≠ (.slice Ao127 t283.length co127 : Value).ownBlock) (Kd.R_keptB (HO_7.out) hkp (fun k_ hk_ hs_ => (hk_.2.2) hs_)) (fun k_ hk_ => ⟨hk_.1.1, hk_.1.2.1, hk_.1.2.2⟩)); have n1_ := Aside0.mk (Kd.R_mono (ok' := fun k_ => some k_ ≠ (.slice Ao31 t255.length co31 : Value).ownBlock ∧ some k_ ≠ (.slice Ao125 t279.length co125 : Value).ownBlock ∧ some k_ ≠ (.slice Ao127 t283.length co127 : Value).ownBlock) (Kd.R_keptB (HO_8.out) hkp (fun k_ hk_ hs_ => (hk_.2.2) hs_)) (fun k_ hk_ => ⟨hk_.1.1, hk_.1.2.1, hk_.1.2.2⟩)); have n2_ := Aside0.mk (Kd.R_mono (ok' := fun k_ => some k_ ≠ (.slice Ao31 t255.length co31 : Value).ownBlock ∧ some k_ ≠ (.slice Ao49 t258.length co49 : Value).ownBlock ∧ some k_ ≠ (.slice Ao127 t283.length co127 : Value).ownBlock) (Kd.R_keptB (HO_14.out) hkp (fun k_ hk_ hs_ => (hk_.2.2) hs_)) (fun k_ hk_ => ⟨hk_.1.1, hk_.1.2.1, hk_.1.2.2⟩)); have n3_ := Aside0.mk (Kd.R_reok rfl hy0 (fun k_ e_ => HO_16.out.1 k_ e_)); have n4_ := Aside0.mk (hb); clear HO_7; clear HO_8; clear HO_14; clear HO_16; clear HB; have HO_7 := n0_; have HO_8 := n1_; have HO_14 := n2_; have HO_16 := n3_; have HB := n4_; clear n0_ n1_ n2_ n3_ n4_; (try clear hb); (try clear hkp); (try clear hy0)) | (go_at_call 17; (with_reducible refine (cutplaneref01_Same.calls kj106 _ _ t255 _ _ l0 true _ ?side1 ?side2 ?side3 ?side4 A120.out).mono ?_); (case side1 => repeat (first | exact (Kd.R_reads' HO_7.out).2.2 | (with_reducible refine Kd.C_alloc ?_ _) | (with_reducible refine Kd.C_drewN ?_ _) | (with_reducible refine Kd.C_drew ?_))); (case side2 => exact (Kd.R_reads' HO_7.out).2.1); (case side3 => repeat (first | exact (Kd.C_below HR0.out HB.out) | (with_reducible refine Kd.C_alloc ?_ _) | (with_reducible refine Kd.C_drewN ?_ _) | (with_reducible refine Kd.C_drew ?_))); (case side4 => exact HC0.out); rintro e w' ⟨rfl, ⟨nd, rfl⟩⟩) | (go_at_call 17; (with_reducible refine (cutplaneref01_Same.calls kj106 _ _ t258 _ _ l1 true _ ?side1 ?side2 ?side3 ?side4 A122.out).mono ?_); (case side1 => repeat (first | exact (Kd.R_reads' HO_8.out).2.2 | (with_reducible refine Kd.C_alloc ?_ _) | (with_reducible refine Kd.C_drewN ?_ _) | (with_reducible refine Kd.C_drew ?_))); (case side2 => exact (Kd.R_reads' HO_8.out).2.1); (case side3 => repeat (first | exact (Kd.C_below HR1.out (by repeat (first | (with_reducible first | exact HB.out | apply below_alloc | apply pw_below_drewN | apply below_drew1) | exact HB.out))) | (with_reducible refine Kd.C_alloc ?_ _) | (with_reducible refine Kd.C_drewN ?_ _) | (with_reducible refine Kd.C_drew ?_))); (case side4 => exact HC1.out); rintro e w' ⟨rfl, ⟨nd, rfl⟩⟩) | (go_at_call 13; (with_reducible refine (cutplanelaw01_known.calls kj106  t307 _ A124.out).mono ?_); rintro e w129 ⟨rfl, hb⟩; have n0_ := Aside0.mk (Kd.R_below (by (with_reducible repeat (first | apply Kd.R_alloc | apply Kd.R_drewN | apply Kd.R_drew)); exact HO_7.out) hb); have n1_ := Aside0.mk (Kd.R_below (by (with_reducible repeat (first | apply Kd.R_alloc | apply Kd.R_drewN | apply Kd.R_drew)); exact HO_8.out) hb); have n2_ := Aside0.mk (Kd.R_below (by (with_reducible repeat (first | apply Kd.R_alloc | apply Kd.R_drewN | apply Kd.R_drew)); exact HO_14.out) hb); have n3_ := Aside0.mk (Kd.R_below (by (with_reducible repeat (first | apply Kd.R_alloc | apply Kd.R_drewN | apply Kd.R_drew)); exact HO_16.out) hb); have n4_ := Aside0.mk (below_step (by repeat (first | (with_reducible first | exact HB.out | apply below_alloc | apply pw_below_drewN | apply below_drew1) | exact HB.out)) hb); clear HO_7; clear HO_8; clear HO_14; clear HO_16; clear HB; have HO_7 := n0_; have HO_8 := n1_; have HO_14 := n2_; have HO_16 := n3_; have HB := n4_; clear n0_ n1_ n2_ n3_ n4_; (try clear hb); (try clear hb2); (try clear hk); (try clear hi)))
                                                            go_ret
                                                            exact ⟨by first | rfl | (simp [errW_none, errW_some] <;> rfl) | (simp [*, errW_none, errW_some] <;> rfl), by repeat (first | (with_reducible first | exact HB.out | apply below_alloc | apply pw_below_drewN | apply below_drew1) | exact HB.out)⟩
                                                        · replace c123 := Bool.eq_false_iff.mpr c123
                                                          subst c123
                                                          have H1 : (some false) = some r := by rw [if_neg (show ¬ (false = true) by decide)] at H; exact H
                                                          clear H
                                                          have H := H1
                                                          clear H1
                                                          as_aux_lemma =>
                                                            obtain rfl := Option.some.inj H
                                                            obtain ⟨Ao130, co130, eo130⟩ := Kd.R_slice HO_14.out
                                                            subst eo130
                                                            go_wp2_with (first | ((with_reducible refine gate_callee (f := 27) rfl ?_); refine goesL_ (some 194) rfl rfl Try.func27 (by kernel_rfl) rfl #[.slice Ao130 t279.length co130] rfl (by (try simp only [List.map_toArray, List.map_cons, List.map_nil]); first | done | rfl | (simp only [List.length_drop, List.length_take]; rfl)) ?_; (with_reducible refine (cutplanelaw01_marked.calls kj106 (fun k_ => some k_ = (.slice Ao130 t279.length co130 : Value).ownBlock) (.slice Ao130 t279.length co130) t279 t303 w _ ?side1 ?side2 A117.out).mono ?_); (case side1 => repeat (first | (with_reducible first | exact HB.out | apply below_alloc | apply pw_below_drewN | apply below_drew1) | exact HB.out)); (case side2 => exact Kd.R_tight rfl HO_14.out); rintro e w131 ⟨rfl, hy0, hb, hkp⟩; refine ⟨_, rfl, ?_⟩; have n0_ := Aside0.mk (Kd.R_mono (ok' := fun k_ => some k_ ≠ (.slice Ao49 t258.length co49 : Value).ownBlock ∧ some k_ ≠ (.slice Ao130 t279.length co130 : Value).ownBlock ∧ some k_ ≠ (v284 : Value).ownBlock) (Kd.R_keptB (HO_7.out) hkp (fun k_ hk_ hs_ => (hk_.2.1) hs_)) (fun k_ hk_ => ⟨hk_.1.1, hk_.1.2.1, hk_.1.2.2⟩)); have n1_ := Aside0.mk (Kd.R_mono (ok' := fun k_ => some k_ ≠ (.slice Ao31 t255.length co31 : Value).ownBlock ∧ some k_ ≠ (.slice Ao130 t279.length co130 : Value).ownBlock ∧ some k_ ≠ (v284 : Value).ownBlock) (Kd.R_keptB (HO_8.out) hkp (fun k_ hk_ hs_ => (hk_.2.1) hs_)) (fun k_ hk_ => ⟨hk_.1.1, hk_.1.2.1, hk_.1.2.2⟩)); have n2_ := Aside0.mk (Kd.R_reok rfl hy0 (fun k_ e_ => HO_14.out.1 k_ e_)); have n3_ := Aside0.mk (Kd.R_mono (ok' := fun k_ => some k_ ≠ (.slice Ao31 t255.length co31 : Value).ownBlock ∧ some k_ ≠ (.slice Ao49 t258.length co49 : Value).ownBlock ∧ some k_ ≠ (.slice Ao130 t279.length co130 : Value).ownBlock) (Kd.R_keptB (HO_16.out) hkp (fun k_ hk_ hs_ => (hk_.2.2) hs_)) (fun k_ hk_ => ⟨hk_.1.1, hk_.1.2.1, hk_.1.2.2⟩)); have n4_ := Aside0.mk (hb); clear HO_7; clear HO_8; clear HO_14; clear HO_16; clear HB; have HO_7 := n0_; have HO_8 := n1_; have HO_14 := n2_; have HO_16 := n3_; have HB := n4_; clear n0_ n1_ n2_ n3_ n4_; (try clear hb); (try clear hkp); (try clear hy0); obtain ⟨Ao132, co132, eo132⟩ := Kd.R_slice HO_16.out; subst eo132) | ((with_reducible refine gate_callee (f := 27) rfl ?_); refine goesL_ (some 196) rfl rfl Try.func27 (by kernel_rfl) rfl #[.slice Ao132 t283.length co132] rfl (by (try simp only [List.map_toArray, List.map_cons, List.map_nil]); first | done | rfl | (simp only [List.length_drop, List.length_take]; rfl)) ?_; (with_reducible refine (cutplanelaw01_marked.calls kj106 (fun k_ => some k_ = (.slice Ao132 t283.length co132 : Value).ownBlock) (.slice Ao132 t283.length co132) t283 t304 w _ ?side1 ?side2 A118.out).mono ?_); (case side1 => repeat (first | (with_reducible first | exact HB.out | apply below_alloc | apply pw_below_drewN | apply below_drew1) | exact HB.out)); (case side2 => exact Kd.R_tight rfl HO_16.out); rintro e w133 ⟨rfl, hy0, hb, hkp⟩; refine ⟨_, rfl, ?_⟩; have n0_ := Aside0.mk (Kd.R_mono (ok' := fun k_ => some k_ ≠ (.slice Ao49 t258.length co49 : Value).ownBlock ∧ some k_ ≠ (.slice Ao130 t279.length co130 : Value).ownBlock ∧ some k_ ≠ (.slice Ao132 t283.length co132 : Value).ownBlock) (Kd.R_keptB (HO_7.out) hkp (fun k_ hk_ hs_ => (hk_.2.2) hs_)) (fun k_ hk_ => ⟨hk_.1.1, hk_.1.2.1, hk_.1.2.2⟩)); have n1_ := Aside0.mk (Kd.R_mono (ok' := fun k_ => some k_ ≠ (.slice Ao31 t255.length co31 : Value).ownBlock ∧ some k_ ≠ (.slice Ao130 t279.length co130 : Value).ownBlock ∧ some k_ ≠ (.slice Ao132 t283.length co132 : Value).ownBlock) (Kd.R_keptB (HO_8.out) hkp (fun k_ hk_ hs_ => (hk_.2.2) hs_)) (fun k_ hk_ => ⟨hk_.1.1, hk_.1.2.1, hk_.1.2.2⟩)); have n2_ := Aside0.mk (Kd.R_mono (ok' := fun k_ => some k_ ≠ (.slice Ao31 t255.length co31 : Value).ownBlock ∧ some k_ ≠ (.slice Ao49 t258.length co49 : Value).ownBlock ∧ some k_ ≠ (.slice Ao132 t283.length co132 : Value).ownBlock) (Kd.R_keptB (HO_14.out) hkp (fun k_ hk_ hs_ => (hk_.2.2) hs_)) (fun k_ hk_ => ⟨hk_.1.1, hk_.1.2.1, hk_.1.2.2⟩)); have n3_ := Aside0.mk (Kd.R_reok rfl hy0 (fun k_ e_ => HO_16.out.1 k_ e_)); have n4_ := Aside0.mk (hb); clear HO_7; clear HO_8; clear HO_14; clear HO_16; clear HB; have HO_7 := n0_; have HO_8 := n1_; have HO_14 := n2_; have HO_16 := n3_; have HB := n4_; clear n0_ n1_ n2_ n3_ n4_; (try clear hb); (try clear hkp); (try clear hy0)) | (go_at_call 17; (with_reducible refine (cutplaneref01_Same.calls kj106 _ _ t255 _ _ l0 true _ ?side1 ?side2 ?side3 ?side4 A120.out).mono ?_); (case side1 => repeat (first | exact (Kd.R_reads' HO_7.out).2.2 | (with_reducible refine Kd.C_alloc ?_ _) | (with_reducible refine Kd.C_drewN ?_ _) | (with_reducible refine Kd.C_drew ?_))); (case side2 => exact (Kd.R_reads' HO_7.out).2.1); (case side3 => repeat (first | exact (Kd.C_below HR0.out HB.out) | (with_reducible refine Kd.C_alloc ?_ _) | (with_reducible refine Kd.C_drewN ?_ _) | (with_reducible refine Kd.C_drew ?_))); (case side4 => exact HC0.out); rintro e w' ⟨rfl, ⟨nd, rfl⟩⟩) | (go_at_call 17; (with_reducible refine (cutplaneref01_Same.calls kj106 _ _ t258 _ _ l1 false _ ?side1 ?side2 ?side3 ?side4 A122.out).mono ?_); (case side1 => repeat (first | exact (Kd.R_reads' HO_8.out).2.2 | (with_reducible refine Kd.C_alloc ?_ _) | (with_reducible refine Kd.C_drewN ?_ _) | (with_reducible refine Kd.C_drew ?_))); (case side2 => exact (Kd.R_reads' HO_8.out).2.1); (case side3 => repeat (first | exact (Kd.C_below HR1.out (by repeat (first | (with_reducible first | exact HB.out | apply below_alloc | apply pw_below_drewN | apply below_drew1) | exact HB.out))) | (with_reducible refine Kd.C_alloc ?_ _) | (with_reducible refine Kd.C_drewN ?_ _) | (with_reducible refine Kd.C_drew ?_))); (case side4 => exact HC1.out); rintro e w' ⟨rfl, ⟨nd, rfl⟩⟩))
                                                            go_ret
                                                            exact ⟨by first | rfl | (simp [errW_none, errW_some] <;> rfl) | (simp [*, errW_none, errW_some] <;> rfl), by repeat (first | (with_reducible first | exact HB.out | apply below_alloc | apply pw_below_drewN | apply below_drew1) | exact HB.out)⟩
                                                      · replace c121 := Bool.eq_false_iff.mpr c121
                                                        subst c121
                                                        have H1 : (some false) = some r := by rw [if_neg (show ¬ (false = true) by decide)] at H; exact H
                                                        clear H
                                                        have H := H1
                                                        clear H1
                                                        as_aux_lemma =>
                                                          obtain rfl := Option.some.inj H
                                                          obtain ⟨Ao134, co134, eo134⟩ := Kd.R_slice HO_14.out
                                                          subst eo134
                                                          go_wp2_with (first | ((with_reducible refine gate_callee (f := 27) rfl ?_); refine goesL_ (some 194) rfl rfl Try.func27 (by kernel_rfl) rfl #[.slice Ao134 t279.length co134] rfl (by (try simp only [List.map_toArray, List.map_cons, List.map_nil]); first | done | rfl | (simp only [List.length_drop, List.length_take]; rfl)) ?_; (with_reducible refine (cutplanelaw01_marked.calls kj106 (fun k_ => some k_ = (.slice Ao134 t279.length co134 : Value).ownBlock) (.slice Ao134 t279.length co134) t279 t303 w _ ?side1 ?side2 A117.out).mono ?_); (case side1 => repeat (first | (with_reducible first | exact HB.out | apply below_alloc | apply pw_below_drewN | apply below_drew1) | exact HB.out)); (case side2 => exact Kd.R_tight rfl HO_14.out); rintro e w135 ⟨rfl, hy0, hb, hkp⟩; refine ⟨_, rfl, ?_⟩; have n0_ := Aside0.mk (Kd.R_mono (ok' := fun k_ => some k_ ≠ (.slice Ao49 t258.length co49 : Value).ownBlock ∧ some k_ ≠ (.slice Ao134 t279.length co134 : Value).ownBlock ∧ some k_ ≠ (v284 : Value).ownBlock) (Kd.R_keptB (HO_7.out) hkp (fun k_ hk_ hs_ => (hk_.2.1) hs_)) (fun k_ hk_ => ⟨hk_.1.1, hk_.1.2.1, hk_.1.2.2⟩)); have n1_ := Aside0.mk (Kd.R_mono (ok' := fun k_ => some k_ ≠ (.slice Ao31 t255.length co31 : Value).ownBlock ∧ some k_ ≠ (.slice Ao134 t279.length co134 : Value).ownBlock ∧ some k_ ≠ (v284 : Value).ownBlock) (Kd.R_keptB (HO_8.out) hkp (fun k_ hk_ hs_ => (hk_.2.1) hs_)) (fun k_ hk_ => ⟨hk_.1.1, hk_.1.2.1, hk_.1.2.2⟩)); have n2_ := Aside0.mk (Kd.R_reok rfl hy0 (fun k_ e_ => HO_14.out.1 k_ e_)); have n3_ := Aside0.mk (Kd.R_mono (ok' := fun k_ => some k_ ≠ (.slice Ao31 t255.length co31 : Value).ownBlock ∧ some k_ ≠ (.slice Ao49 t258.length co49 : Value).ownBlock ∧ some k_ ≠ (.slice Ao134 t279.length co134 : Value).ownBlock) (Kd.R_keptB (HO_16.out) hkp (fun k_ hk_ hs_ => (hk_.2.2) hs_)) (fun k_ hk_ => ⟨hk_.1.1, hk_.1.2.1, hk_.1.2.2⟩)); have n4_ := Aside0.mk (hb); clear HO_7; clear HO_8; clear HO_14; clear HO_16; clear HB; have HO_7 := n0_; have HO_8 := n1_; have HO_14 := n2_; have HO_16 := n3_; have HB := n4_; clear n0_ n1_ n2_ n3_ n4_; (try clear hb); (try clear hkp); (try clear hy0); obtain ⟨Ao136, co136, eo136⟩ := Kd.R_slice HO_16.out; subst eo136) | ((with_reducible refine gate_callee (f := 27) rfl ?_); refine goesL_ (some 196) rfl rfl Try.func27 (by kernel_rfl) rfl #[.slice Ao136 t283.length co136] rfl (by (try simp only [List.map_toArray, List.map_cons, List.map_nil]); first | done | rfl | (simp only [List.length_drop, List.length_take]; rfl)) ?_; (with_reducible refine (cutplanelaw01_marked.calls kj106 (fun k_ => some k_ = (.slice Ao136 t283.length co136 : Value).ownBlock) (.slice Ao136 t283.length co136) t283 t304 w _ ?side1 ?side2 A118.out).mono ?_); (case side1 => repeat (first | (with_reducible first | exact HB.out | apply below_alloc | apply pw_below_drewN | apply below_drew1) | exact HB.out)); (case side2 => exact Kd.R_tight rfl HO_16.out); rintro e w137 ⟨rfl, hy0, hb, hkp⟩; refine ⟨_, rfl, ?_⟩; have n0_ := Aside0.mk (Kd.R_mono (ok' := fun k_ => some k_ ≠ (.slice Ao49 t258.length co49 : Value).ownBlock ∧ some k_ ≠ (.slice Ao134 t279.length co134 : Value).ownBlock ∧ some k_ ≠ (.slice Ao136 t283.length co136 : Value).ownBlock) (Kd.R_keptB (HO_7.out) hkp (fun k_ hk_ hs_ => (hk_.2.2) hs_)) (fun k_ hk_ => ⟨hk_.1.1, hk_.1.2.1, hk_.1.2.2⟩)); have n1_ := Aside0.mk (Kd.R_mono (ok' := fun k_ => some k_ ≠ (.slice Ao31 t255.length co31 : Value).ownBlock ∧ some k_ ≠ (.slice Ao134 t279.length co134 : Value).ownBlock ∧ some k_ ≠ (.slice Ao136 t283.length co136 : Value).ownBlock) (Kd.R_keptB (HO_8.out) hkp (fun k_ hk_ hs_ => (hk_.2.2) hs_)) (fun k_ hk_ => ⟨hk_.1.1, hk_.1.2.1, hk_.1.2.2⟩)); have n2_ := Aside0.mk (Kd.R_mono (ok' := fun k_ => some k_ ≠ (.slice Ao31 t255.length co31 : Value).ownBlock ∧ some k_ ≠ (.slice Ao49 t258.length co49 : Value).ownBlock ∧ some k_ ≠ (.slice Ao136 t283.length co136 : Value).ownBlock) (Kd.R_keptB (HO_14.out) hkp (fun k_ hk_ hs_ => (hk_.2.2) hs_)) (fun k_ hk_ => ⟨hk_.1.1, hk_.1.2.1, hk_.1.2.2⟩)); have n3_ := Aside0.mk (Kd.R_reok rfl hy0 (fun k_ e_ => HO_16.out.1 k_ e_)); have n4_ := Aside0.mk (hb); clear HO_7; clear HO_8; clear HO_14; clear HO_16; clear HB; have HO_7 := n0_; have HO_8 := n1_; have HO_14 := n2_; have HO_16 := n3_; have HB := n4_; clear n0_ n1_ n2_ n3_ n4_; (try clear hb); (try clear hkp); (try clear hy0)) | (go_at_call 17; (with_reducible refine (cutplaneref01_Same.calls kj106 _ _ t255 _ _ l0 false _ ?side1 ?side2 ?side3 ?side4 A120.out).mono ?_); (case side1 => repeat (first | exact (Kd.R_reads' HO_7.out).2.2 | (with_reducible refine Kd.C_alloc ?_ _) | (with_reducible refine Kd.C_drewN ?_ _) | (with_reducible refine Kd.C_drew ?_))); (case side2 => exact (Kd.R_reads' HO_7.out).2.1); (case side3 => repeat (first | exact (Kd.C_below HR0.out HB.out) | (with_reducible refine Kd.C_alloc ?_ _) | (with_reducible refine Kd.C_drewN ?_ _) | (with_reducible refine Kd.C_drew ?_))); (case side4 => exact HC0.out); rintro e w' ⟨rfl, ⟨nd, rfl⟩⟩))
                                                          go_ret
                                                          exact ⟨by first | rfl | (simp [errW_none, errW_some] <;> rfl) | (simp [*, errW_none, errW_some] <;> rfl), by repeat (first | (with_reducible first | exact HB.out | apply below_alloc | apply pw_below_drewN | apply below_drew1) | exact HB.out)⟩
                                                    · replace c119 := Bool.eq_false_iff.mpr c119
                                                      subst c119
                                                      have H1 : (some false) = some r := by rw [if_neg (show ¬ (false = true) by decide)] at H; exact H
                                                      clear H
                                                      have H := H1
                                                      clear H1
                                                      as_aux_lemma =>
                                                        obtain rfl := Option.some.inj H
                                                        obtain ⟨Ao138, co138, eo138⟩ := Kd.R_slice HO_14.out
                                                        subst eo138
                                                        go_wp2_with (first | ((with_reducible refine gate_callee (f := 27) rfl ?_); refine goesL_ (some 194) rfl rfl Try.func27 (by kernel_rfl) rfl #[.slice Ao138 t279.length co138] rfl (by (try simp only [List.map_toArray, List.map_cons, List.map_nil]); first | done | rfl | (simp only [List.length_drop, List.length_take]; rfl)) ?_; (with_reducible refine (cutplanelaw01_marked.calls kj106 (fun k_ => some k_ = (.slice Ao138 t279.length co138 : Value).ownBlock) (.slice Ao138 t279.length co138) t279 t303 w _ ?side1 ?side2 A117.out).mono ?_); (case side1 => repeat (first | (with_reducible first | exact HB.out | apply below_alloc | apply pw_below_drewN | apply below_drew1) | exact HB.out)); (case side2 => exact Kd.R_tight rfl HO_14.out); rintro e w139 ⟨rfl, hy0, hb, hkp⟩; refine ⟨_, rfl, ?_⟩; have n0_ := Aside0.mk (Kd.R_mono (ok' := fun k_ => some k_ ≠ (.slice Ao49 t258.length co49 : Value).ownBlock ∧ some k_ ≠ (.slice Ao138 t279.length co138 : Value).ownBlock ∧ some k_ ≠ (v284 : Value).ownBlock) (Kd.R_keptB (HO_7.out) hkp (fun k_ hk_ hs_ => (hk_.2.1) hs_)) (fun k_ hk_ => ⟨hk_.1.1, hk_.1.2.1, hk_.1.2.2⟩)); have n1_ := Aside0.mk (Kd.R_mono (ok' := fun k_ => some k_ ≠ (.slice Ao31 t255.length co31 : Value).ownBlock ∧ some k_ ≠ (.slice Ao138 t279.length co138 : Value).ownBlock ∧ some k_ ≠ (v284 : Value).ownBlock) (Kd.R_keptB (HO_8.out) hkp (fun k_ hk_ hs_ => (hk_.2.1) hs_)) (fun k_ hk_ => ⟨hk_.1.1, hk_.1.2.1, hk_.1.2.2⟩)); have n2_ := Aside0.mk (Kd.R_reok rfl hy0 (fun k_ e_ => HO_14.out.1 k_ e_)); have n3_ := Aside0.mk (Kd.R_mono (ok' := fun k_ => some k_ ≠ (.slice Ao31 t255.length co31 : Value).ownBlock ∧ some k_ ≠ (.slice Ao49 t258.length co49 : Value).ownBlock ∧ some k_ ≠ (.slice Ao138 t279.length co138 : Value).ownBlock) (Kd.R_keptB (HO_16.out) hkp (fun k_ hk_ hs_ => (hk_.2.2) hs_)) (fun k_ hk_ => ⟨hk_.1.1, hk_.1.2.1, hk_.1.2.2⟩)); have n4_ := Aside0.mk (hb); clear HO_7; clear HO_8; clear HO_14; clear HO_16; clear HB; have HO_7 := n0_; have HO_8 := n1_; have HO_14 := n2_; have HO_16 := n3_; have HB := n4_; clear n0_ n1_ n2_ n3_ n4_; (try clear hb); (try clear hkp); (try clear hy0); obtain ⟨Ao140, co140, eo140⟩ := Kd.R_slice HO_16.out; subst eo140) | ((with_reducible refine gate_callee (f := 27) rfl ?_); refine goesL_ (some 196) rfl rfl Try.func27 (by kernel_rfl) rfl #[.slice Ao140 t283.length co140] rfl (by (try simp only [List.map_toArray, List.map_cons, List.map_nil]); first | done | rfl | (simp only [List.length_drop, List.length_take]; rfl)) ?_; (with_reducible refine (cutplanelaw01_marked.calls kj106 (fun k_ => some k_ = (.slice Ao140 t283.length co140 : Value).ownBlock) (.slice Ao140 t283.length co140) t283 t304 w _ ?side1 ?side2 A118.out).mono ?_); (case side1 => repeat (first | (with_reducible first | exact HB.out | apply below_alloc | apply pw_below_drewN | apply below_drew1) | exact HB.out)); (case side2 => exact Kd.R_tight rfl HO_16.out); rintro e w141 ⟨rfl, hy0, hb, hkp⟩; refine ⟨_, rfl, ?_⟩; have n0_ := Aside0.mk (Kd.R_mono (ok' := fun k_ => some k_ ≠ (.slice Ao49 t258.length co49 : Value).ownBlock ∧ some k_ ≠ (.slice Ao138 t279.length co138 : Value).ownBlock ∧ some k_ ≠ (.slice Ao140 t283.length co140 : Value).ownBlock) (Kd.R_keptB (HO_7.out) hkp (fun k_ hk_ hs_ => (hk_.2.2) hs_)) (fun k_ hk_ => ⟨hk_.1.1, hk_.1.2.1, hk_.1.2.2⟩)); have n1_ := Aside0.mk (Kd.R_mono (ok' := fun k_ => some k_ ≠ (.slice Ao31 t255.length co31 : Value).ownBlock ∧ some k_ ≠ (.slice Ao138 t279.length co138 : Value).ownBlock ∧ some k_ ≠ (.slice Ao140 t283.length co140 : Value).ownBlock) (Kd.R_keptB (HO_8.out) hkp (fun k_ hk_ hs_ => (hk_.2.2) hs_)) (fun k_ hk_ => ⟨hk_.1.1, hk_.1.2.1, hk_.1.2.2⟩)); have n2_ := Aside0.mk (Kd.R_mono (ok' := fun k_ => some k_ ≠ (.slice Ao31 t255.length co31 : Value).ownBlock ∧ some k_ ≠ (.slice Ao49 t258.length co49 : Value).ownBlock ∧ some k_ ≠ (.slice Ao140 t283.length co140 : Value).ownBlock) (Kd.R_keptB (HO_14.out) hkp (fun k_ hk_ hs_ => (hk_.2.2) hs_)) (fun k_ hk_ => ⟨hk_.1.1, hk_.1.2.1, hk_.1.2.2⟩)); have n3_ := Aside0.mk (Kd.R_reok rfl hy0 (fun k_ e_ => HO_16.out.1 k_ e_)); have n4_ := Aside0.mk (hb); clear HO_7; clear HO_8; clear HO_14; clear HO_16; clear HB; have HO_7 := n0_; have HO_8 := n1_; have HO_14 := n2_; have HO_16 := n3_; have HB := n4_; clear n0_ n1_ n2_ n3_ n4_; (try clear hb); (try clear hkp); (try clear hy0)))
                                                        go_ret
                                                        exact ⟨by first | rfl | (simp [errW_none, errW_some] <;> rfl) | (simp [*, errW_none, errW_some] <;> rfl), by repeat (first | (with_reducible first | exact HB.out | apply below_alloc | apply pw_below_drewN | apply below_drew1) | exact HB.out)⟩

/-- THE ONE PURE STATEMENT of cutplanelaw01_NatSums: yours. -/
def cutplanelaw01_NatSums.Pure : Prop := ∀ (l0 : List Int) (l1 : List Int) (a2 : Int), l0.length ≤ maxLen → l0.length * 4 ≤ 140737488351232 → (∀ x ∈ l0, (Lit.int .u32 x).wf = true) → l1.length ≤ maxLen → l1.length * 4 ≤ 140737488351232 → (∀ x ∈ l1, (Lit.int .u32 x).wf = true) → (Lit.int .u64 a2).wf = true → ∃ k, cutplanelaw01_NatSums.f k l0 l1 a2 = some true
theorem cutplanelaw01_NatSums.walk (P : cutplanelaw01_NatSums.Pure) (a0 : Option Addr) (len0 cap0 : Nat) (z0 : List Int) (a1 : Option Addr) (len1 cap1 : Nat) (z1 : List Int) (a2 : Int) (w : World) (w0 : (a0 = none ∧ len0 = 0 ∧ cap0 = 0 ∧ z0 = []) ∨ ∃ x, a0 = some x ∧ len0 ≤ cap0 ∧ cap0 ≤ maxLen ∧ z0.length = cap0 ∧ (∀ i, i < z0.length → w.cell? (x.add i) = some (.int .u32 (z0.getD i 0))) ∧ ∀ n ∈ z0, (Lit.int .u32 n).wf = true) (y0 : len0 * 4 ≤ 140737488351232) (w1 : (a1 = none ∧ len1 = 0 ∧ cap1 = 0 ∧ z1 = []) ∨ ∃ x, a1 = some x ∧ len1 ≤ cap1 ∧ cap1 ≤ maxLen ∧ z1.length = cap1 ∧ (∀ i, i < z1.length → w.cell? (x.add i) = some (.int .u32 (z1.getD i 0))) ∧ ∀ n ∈ z1, (Lit.int .u32 n).wf = true) (y1 : len1 * 4 ≤ 140737488351232) (w2 : (Lit.int .u64 a2).wf = true) :
    Calls Try.prog 3 #[.slice a0 len0 cap0, .slice a1 len1 cap1, .int .u64 a2] w fun e w' => e = .returned (.bool true) ∧ Below w.heap.size w w' := by
  obtain ⟨l0, rfl, hr0, hm0, hw0, hc0⟩ := ReadsInt.ofRowC w0
  obtain ⟨l1, rfl, hr1, hm1, hw1, hc1⟩ := ReadsInt.ofRowC w1
  obtain ⟨k, h⟩ := P l0 l1 a2 hm0 y0 hw0 hm1 y1 hw1 w2
  refine (cutplanelaw01_NatSums.calls k _ _ l0 _ _ l1 a2 true w (Kd.C_of_reads (d := (0 : Int)) (h1 := fun _ => rfl) hr0) hc0 (Kd.C_of_reads (d := (0 : Int)) (h1 := fun _ => rfl) hr1) hc1 h).mono ?_
  rintro e w' ⟨rfl, hd⟩
  exact ⟨rfl, hd⟩

end Go.Proofs.Ytldcelgbinenbaa.Px
