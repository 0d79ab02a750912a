/- A make with a capacity of its own: a row of noughts that has room. -/
import Derived.Test.YtldcelgbinenbaaDoorWWords
import Derived.Test.YtldcelgbinenbaaDoorWMore
set_option linter.unusedVariables false
namespace Go.Proofs.YtldcelgbinenbaaDoorW.PrintWords
open Go Go.RowKit
namespace Kd
section
variable {P : Program} {ops : Array Oper} {rest : List Oper} {o : Oper} {a : Act} {Q : Exit → Act → World → Prop} {α : Type}
theorem R_make_cap (d : Kd α) {w0 W : World} (base e : Nat) (hgd : o.guard = none) {N : Tmp} (hd : o.dst = some N) (t : TypeId) (x y : Operand) (ho : o.op = .makeSlice t x y) (n c : Int) (hx : a.eval x = .int .i64 n) (hy : a.eval y = .int .i64 c)
    (ht : P.underlying t = some (.slice e)) (z : Value) (bytes : Nat) (hinfo : (P.info? e).map (fun i => (i.zero, i.size, i.bytes)) = some (some z, d.sz, bytes)) (hz : z.cells.size = d.sz) (hs0 : 0 < d.sz) (hb0 : 0 < bytes)
    (z0 : α) {ok okp : Nat → Prop} (hzero : d.M W base okp z0 z.cells.toList) (hok : ∀ k, okp k → ok k) (hfresh : ok W.heap.size) (h0 : 0 ≤ n) (hnc : n ≤ c) (hl : c.toNat * bytes ≤ 281474976710656) (HB : Below base w0 W) (hbase : base ≤ W.heap.size)
    (h : ∀ v1 w1, d.R e w1 base ok v1 (List.replicate n.toNat z0) → Below base w0 w1 → W.grownBy w1 none → (∃ b, v1.ownBlock = some b ∧ W.heap.size ≤ b) → wpList P ops Q rest (a.put o.dst v1) w1) : wpList P ops Q (o :: rest) a W := by
  obtain ⟨m, rfl⟩ := Int.eq_ofNat_of_zero_le h0
  obtain ⟨q, rfl⟩ := Int.eq_ofNat_of_zero_le (show 0 ≤ c by omega)
  simp only [Int.toNat_natCast] at hl h
  have hmq : m ≤ q := by omega
  obtain ⟨i0, hi, hzz⟩ := Option.map_eq_some_iff.1 hinfo
  simp only [Prod.mk.injEq] at hzz
  obtain ⟨hz0, hz1, hz2⟩ := hzz
  have hm : q ≤ 281474976710656 := Nat.le_trans (Nat.le_mul_of_pos_right _ hb0) hl
  have hr := run_make (P := P) W t e i0 z ht hi hz0 .i64 .i64 (m : Int) (q : Int) (by omega) (by omega)
    (by
      have h3 : ((i0.bytes * q : Nat) : Int) ≤ 281474976710656 := by rw [hz2, Nat.mul_comm]; omega
      rwa [Int.natCast_mul] at h3) (by omega)
  simp only [Int.toNat_natCast] at hr
  rw [hz1] at hr
  have hrun : (execOp a.eval o).run P W = .ok (.value (.slice (some ⟨W.heap.size, 0, none⟩) m q)) (W.alloc (.cells (madeCells z.cells (q * d.sz)) e)) := by
    simp [execOp, ho, hx, hy, hr]
  have hrep : Reps (d.M W base okp) d.sz (List.replicate q z0) (madeCells z.cells (q * d.sz)).toList := reps_made hz hs0 hzero q
  have full : d.R e (W.alloc (.cells (madeCells z.cells (q * d.sz)) e)) base ok (.slice (some ⟨W.heap.size, 0, none⟩) q q) (List.replicate q z0) := by
    refine ⟨fun k hk => ?_, (madeCells z.cells (q * d.sz)).toList, ?_, ?_⟩
    · have : W.heap.size = k := by simpa [Value.ownBlock] using hk
      subst this
      exact hfresh
    · have h2 := World.ownsRow_lit (base := base) (e := e) (size := d.sz) W (madeCells z.cells (q * d.sz)) q hbase (by simp [maxLen]; omega) (by simp [size_madeCells])
      simpa using h2
    · refine hrep.imp_ (fun p c hp => d.M_mono (fun k hk => ⟨hok k hk.1, fun he => ?_⟩) (M_below (d.M_bound hp) (below_alloc (Below.refl _ _) _)))
      have h3 : k = W.heap.size := by simpa [Value.ownBlock] using he
      have := hk.2.2.1
      omega
  have cut := R_take (m := m) full (by simpa using hmq)
  rw [List.take_replicate, Nat.min_eq_left hmq] at cut
  exact event_run hgd hrun (h _ _ cut (HB.alloc hbase _) (World.grownBy_alloc W _ none) ⟨W.heap.size, by simp [Value.ownBlock], Nat.le_refl _⟩)
end
end Kd

theorem own_len (A : Option Addr) (n m c : Nat) : (Value.slice A n c).ownBlock = (Value.slice A m c).ownBlock := by cases A <;> rfl
theorem max2_mx (k k' : IntKind) (x y : Int) : Builtin.max2 (.int k x) (.int k' y) = pure (.int k (mx x y)) := Go.Proofs.YtldcelgbinenbaaDoorW.PrintMore.max2_int k k' x y
/-! ### a piece of a row of the call's own: what lies ahead of it and behind it stays -/
/-- The slice v is the piece xs of the row pre_ ++ xs ++ post_ in block pg_. -/
def PQ (pre_ post_ : List Int) (pg_ pc_ : Nat) (e : Nat) (w : World) (base : Nat) (ok : Nat → Prop) (v : Value) (xs : List Int) : Prop :=
  (∀ k, v.ownBlock = some k → ok k) ∧ ∃ c, v = .slice (some ⟨pg_, pre_.length, none⟩) xs.length c ∧ xs.length ≤ c ∧ Kd.R (Kd.int .u32) e w base ok (.slice (some ⟨pg_, 0, none⟩) (pre_ ++ xs ++ post_).length pc_) (pre_ ++ xs ++ post_)
section
variable {pre_ post_ : List Int} {pg_ pc_ e : Nat} {w w1 W : World} {base : Nat} {ok ok' : Nat → Prop} {v : Value} {xs : List Int}
theorem PQ_mono (h : PQ pre_ post_ pg_ pc_ e w base ok v xs) (hok : ∀ k, ok k → ok' k) : PQ pre_ post_ pg_ pc_ e w base ok' v xs := by
  obtain ⟨h0, c, h1, h2, h3⟩ := h; exact ⟨fun k hk => hok k (h0 k hk), c, h1, h2, Kd.R_mono h3 hok⟩
theorem PQ_drew (h : PQ pre_ post_ pg_ pc_ e w base ok v xs) : PQ pre_ post_ pg_ pc_ e w.drew base ok v xs := by
  obtain ⟨h0, c, h1, h2, h3⟩ := h; exact ⟨h0, c, h1, h2, Kd.R_drew h3⟩
theorem PQ_drewN (h : PQ pre_ post_ pg_ pc_ e w base ok v xs) (m : Nat) : PQ pre_ post_ pg_ pc_ e (w.drewN m) base ok v xs := by
  obtain ⟨h0, c, h1, h2, h3⟩ := h; exact ⟨h0, c, h1, h2, Kd.R_drewN h3 m⟩
theorem PQ_alloc (h : PQ pre_ post_ pg_ pc_ e w base ok v xs) (o : Obj) : PQ pre_ post_ pg_ pc_ e (w.alloc o) base ok v xs := by
  obtain ⟨h0, c, h1, h2, h3⟩ := h; exact ⟨h0, c, h1, h2, Kd.R_alloc h3 o⟩
theorem PQ_at {m : Nat} {w' : World} (hq : w.drewN m = w') (h : PQ pre_ post_ pg_ pc_ e w base ok v xs) : PQ pre_ post_ pg_ pc_ e w' base ok v xs := by subst hq; exact PQ_drewN h m
theorem PQ_slice (h : PQ pre_ post_ pg_ pc_ e w base ok v xs) : ∃ A c, v = .slice A xs.length c ∧ xs.length ≤ c := by
  obtain ⟨_, c, h1, h2, _⟩ := h; exact ⟨_, c, h1, h2⟩
theorem PQ_form (h : PQ pre_ post_ pg_ pc_ e w base ok v xs) (hp : 0 < xs.length) : ∃ g o cap, v = .slice (some ⟨g, o, none⟩) xs.length cap ∧ base ≤ g ∧ g < w.heap.size ∧ ∃ cells, w.heap[g]? = some (.cells cells e (0, 0)) := by
  obtain ⟨_, c, h1, h2, h3⟩ := h
  obtain ⟨g, cap, he, hb, hl, hc⟩ := Kd.R_form h3 (by simp; omega)
  injection he with he _ _
  injection he with he
  injection he with he _ _
  subst he
  exact ⟨pg_, pre_.length, c, h1, hb, hl, hc⟩
theorem piece_rd (pre_ xs post_ : List Int) (d : Int) {i : Nat} (hi : i < xs.length) : (pre_ ++ xs ++ post_).getD (pre_.length + i) d = xs.getD i d := by
  rw [List.getD_eq_getElem?_getD, List.getD_eq_getElem?_getD, List.append_assoc, List.getElem?_append_right (by omega), List.getElem?_append_left (by omega)]
  congr 2; omega
theorem piece_set (pre_ xs post_ : List Int) (x : Int) {i : Nat} (hi : i < xs.length) : (pre_ ++ xs ++ post_).set (pre_.length + i) x = pre_ ++ xs.set i x ++ post_ := by
  rw [List.append_assoc, List.set_append_right _ _ (by omega), List.set_append_left _ _ (by omega), List.append_assoc]
  congr 3; omega
theorem PQ_inj {g o n cap : Nat} (h : PQ pre_ post_ pg_ pc_ e W base ok (.slice (some ⟨g, o, none⟩) n cap) xs) : g = pg_ ∧ o = pre_.length ∧ n = xs.length ∧ n ≤ cap ∧ Kd.R (Kd.int .u32) e W base ok (.slice (some ⟨pg_, 0, none⟩) (pre_ ++ xs ++ post_).length pc_) (pre_ ++ xs ++ post_) := by
  obtain ⟨_, c, h1, h2, h3⟩ := h
  injection h1 with ha hn hc
  injection ha with ha
  injection ha with hg ho _
  subst hn hc
  exact ⟨hg, ho, rfl, h2, h3⟩
theorem PQ_cell (d : Int) {g o n cap : Nat} (h : PQ pre_ post_ pg_ pc_ e W base ok (.slice (some ⟨g, o, none⟩) n cap) xs) (i : Int) (h0 : 0 ≤ i) (hi : i < n) : W.cell? ⟨g, o + i.toNat, none⟩ = some (.int .u32 (rdOf d xs i)) ∧ W.frozen? ⟨g, o + i.toNat, none⟩ = false := by
  obtain ⟨rfl, rfl, rfl, _, h3⟩ := PQ_inj h
  have h4 := Kd.R_cell d h3 ((pre_.length + i.toNat : Nat) : Int) (by omega) (by simp; omega)
  rw [Int.toNat_natCast] at h4
  have e1 : rdOf d (pre_ ++ xs ++ post_) ((pre_.length + i.toNat : Nat) : Int) = rdOf d xs i := by
    unfold rdOf
    rw [Int.toNat_natCast]
    exact piece_rd _ _ _ _ (by omega)
  rw [e1] at h4
  exact h4
theorem PQ_putg {g o n cap : Nat} (h : PQ pre_ post_ pg_ pc_ e W base ok (.slice (some ⟨g, o, none⟩) n cap) xs) (i : Int) (h0 : 0 ≤ i) (hi : i < n) (x : Int) : PQ pre_ post_ pg_ pc_ e (W.setCell ⟨g, o + i.toNat, none⟩ (.int .u32 x)) base ok (.slice (some ⟨g, o, none⟩) n cap) (xs.set i.toNat x) ∧ W.grownBy (W.setCell ⟨g, o + i.toNat, none⟩ (.int .u32 x)) (some g) := by
  have h0 := h.1
  obtain ⟨rfl, rfl, rfl, h2, h3⟩ := PQ_inj h
  have h4 := Kd.R_putg h3 ((pre_.length + i.toNat : Nat) : Int) x
  rw [Int.toNat_natCast, piece_set _ _ _ _ (by omega)] at h4
  refine ⟨⟨h0, cap, by rw [List.length_set], by rw [List.length_set]; exact h2, ?_⟩, h4.2⟩
  have e1 : (pre_ ++ xs.set i.toNat x ++ post_).length = (pre_ ++ xs ++ post_).length := by simp
  rw [e1]
  exact h4.1
theorem PQ_reads' {A : Option Addr} {n c : Nat} (h : PQ pre_ post_ pg_ pc_ e w base ok (.slice A n c) xs) : n = xs.length ∧ n ≤ c ∧ Kd.C (Kd.int .u32) w A xs.length xs := by
  obtain ⟨_, c', h1, h2, h3⟩ := h
  injection h1 with ha hn hc
  subst ha hn hc
  have hR := (Kd.R_reads' h3).2.2
  have h5 := Kd.C_mid (c := (pre_ ++ xs ++ post_).length + pre_.length + 1) (lo := pre_.length) (hi := pre_.length + xs.length) hR (by omega) (by simp) (by omega)
  rw [if_neg (by simp; omega)] at h5
  have e1 : ((pre_ ++ xs ++ post_).take (pre_.length + xs.length)).drop pre_.length = xs := by
    rw [List.append_assoc, List.take_append, List.take_of_length_le (by omega), Nat.add_sub_cancel_left, List.take_left, List.drop_left]
  rw [e1] at h5
  have e2 : (Option.map (fun q => q.add (pre_.length * (Kd.int .u32).sz)) (some (⟨pg_, 0, none⟩ : Addr))) = some ⟨pg_, pre_.length, none⟩ := by
    have : (Kd.int .u32).sz = 1 := rfl
    rw [this, Nat.mul_one]
    simp [Addr.add]
    try (intro h; simp [h])
  rw [e2] at h5
  exact ⟨rfl, h2, h5⟩
end
end Go.Proofs.YtldcelgbinenbaaDoorW.PrintWords
