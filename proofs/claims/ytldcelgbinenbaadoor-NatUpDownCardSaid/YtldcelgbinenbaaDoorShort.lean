/- Short words for the printed walks: one step of the world that writes nothing (a class), and what each row, share and bound keeps by it. -/
import Derived.Test.YtldcelgbinenbaaDoorWWords
import Derived.Test.YtldcelgbinenbaaDoorWLast
import Derived.Test.YtldcelgbinenbaaDoorWMore
import Derived.Test.YtldcelgbinenbaaDoorWShare
import Derived.Test.YtldcelgbinenbaaDoorMine
set_option linter.unusedVariables false
namespace Go.Proofs.YtldcelgbinenbaaDoorW.PrintWords
universe u
open Go Go.RowKit PrintLast
class Upw (W W' : World) : Prop where
  b : Below W.heap.size W W'
instance upw0 (W : World) : Upw W W := ⟨Below.refl _ _⟩
instance upw1 (W W' : World) (o : Obj) [h : Upw W W'] : Upw W (W'.alloc o) := ⟨below_alloc h.b o⟩
instance upw2 (W W' : World) (n : Nat) [h : Upw W W'] : Upw W (W'.drewN n) := ⟨pw_below_drewN h.b n⟩
instance upw3 (W W' : World) [h : Upw W W'] : Upw W W'.drew := ⟨below_drew1 h.b⟩
section
variable {α β : Type} {d : Kd α} {d' : Kd β} {e e' base b' n c : Nat} {ok ok' : Nat → Prop} {w0 w w' W w1 : World} {u v : Value} {xs : List α} {ys : List β} {A : Option Addr}
theorem bU [u : Upw w W] (h : Aside0 (Below w0.heap.size w0 w)) : Below w0.heap.size w0 W := below_step h.out u.b
theorem rU [u : Upw w W] (h : Aside0 (d.R e w base ok v xs)) : d.R e W base ok v xs := Kd.R_below h.out u.b
theorem vU [u : Upw w W] (h : Aside0 (d.V e w base ok v xs)) : d.V e W base ok v xs := Kd.V_below h.out u.b
theorem cU [u : Upw w W] (h : Aside0 (d.C w A n xs)) : d.C W A n xs := Kd.C_below h.out u.b
theorem cB [u : Upw w W] (h : Aside0 (d.C w0 A n xs)) (hb : Aside0 (Below w0.heap.size w0 w)) : d.C W A n xs := Kd.C_below h.out (bU hb)
theorem rC [u : Upw w W] (h : Aside0 (d.R e w base ok (.slice A n c) xs)) : d.C W A xs.length xs := (Kd.R_reads' (rU h)).2.2
theorem vC [u : Upw w W] (h : Aside0 (d.V e w base ok (.slice A n c) xs)) : d.C W A xs.length xs := (Kd.V_reads' (vU h)).2.2
theorem rN (h : Aside0 (d.R e w base ok (.slice A n c) xs)) : n ≤ c := (Kd.R_reads' h.out).2.1
theorem vN (h : Aside0 (d.V e w base ok (.slice A n c) xs)) : n ≤ c := (Kd.V_reads' h.out).2.1
theorem bS [u : Upw w W] (h : Aside0 (Below w0.heap.size w0 w)) (k : Below W.heap.size W w1) : Aside0 (Below w0.heap.size w0 w1) := ⟨below_step (bU h) k⟩
theorem rE [i : Upw w W] (h : Aside0 (d.R e w base ok u xs)) (ho : d'.R e' w' W.heap.size ok' v ys) (hb : Below W.heap.size W w1) : Aside0 (d.R e w1 base (fun k => ok k ∧ some k ≠ v.ownBlock) u xs) := ⟨Kd.R_elder' (rU h) (Kd.R_base ho) hb⟩
theorem vE [i : Upw w W] (h : Aside0 (d.V e w base ok u xs)) (ho : d'.R e' w' W.heap.size ok' v ys) (hb : Below W.heap.size W w1) : Aside0 (d.V e w1 base (fun k => ok k ∧ some k ≠ v.ownBlock) u xs) := ⟨Kd.V_elder' (vU h) (Kd.R_base ho) hb⟩
theorem rW [i : Upw w W] (h : Aside0 (d.R e w base ok v xs)) (hb : Below W.heap.size W w1) : Aside0 (d.R e w1 base ok v xs) := ⟨Kd.R_below (rU h) hb⟩
theorem vW [i : Upw w W] (h : Aside0 (d.V e w base ok v xs)) (hb : Below W.heap.size W w1) : Aside0 (d.V e w1 base ok v xs) := ⟨Kd.V_below (vU h) hb⟩
theorem rX [i : Upw w W] (h : d.R e w1 W.heap.size ok v xs) (ho : Aside0 (d'.R e' w b' ok' u ys)) : d.R e w1 W.heap.size (fun k => ok k ∧ some k ≠ u.ownBlock) v xs := Kd.R_new' h (Kd.R_lt (rU ho))
theorem vX [i : Upw w W] (h : d.R e w1 W.heap.size ok v xs) (ho : Aside0 (d'.V e' w b' ok' u ys)) (hl : ∀ k, u.ownBlock = some k → k < W.heap.size) : d.R e w1 W.heap.size (fun k => ok k ∧ some k ≠ u.ownBlock) v xs := Kd.R_new' h hl
theorem rL [i : Upw w W] (h : d.R e w1 W.heap.size ok v xs) (hb : Aside0 (Below w0.heap.size w0 w)) : Aside0 (d.R e w1 w0.heap.size ok v xs) := ⟨Kd.R_lower h (below_size (bU hb))⟩
theorem rT (h : d.R e w1 base ok v xs) : d.R e w1 base (fun _ => True) v xs := Kd.R_mono h (fun _ _ => trivial)
theorem rI (he : d.E = [] := by rfl) (h : Aside0 (d.R e w base ok v xs)) [i : Upw w W] : d.V e W b' (fun k => some k = v.ownBlock) v xs := Kd.R_V (Kd.R_tight he (rU h))
end
theorem od {p : Prop} [i : Decidable p] (h : decide p = true := by first | (with_reducible assumption) | assumption) : p := of_decide_eq_true h
theorem es {α : Sort u} {a b : α} (h : a = b := by first | rfl | (simp; done) | (simp [*]; done)) : a = b := h
theorem oc {α β : Type} {o : Option α} {f : α → Option β} {r : β} (h : o.bind f = some r) : ∃ t, Aside0 (o = some t) ∧ f t = some r := by
  obtain ⟨t, h1, h2⟩ := Option.bind_eq_some_iff.mp h
  exact ⟨t, ⟨h1⟩, h2⟩
theorem ob {α β : Type} {a : α} {f : α → Option β} {r : Option β} (h : (some a).bind f = r) : ∃ y, y = a ∧ f y = r := ⟨a, rfl, h⟩
section
variable {P : Program} {ops : Array Oper} {Q : Exit → Act → World → Prop} {rest : List Oper} {oi : Oper} {a : Act} {w : World}
theorem gc {o : Oper} (f : FuncId) {args : Array Operand} {ts : Array TypeId} (h : o.op = .call { callee := .value (.func f), args := args, argTypes := ts }) (k : wpList P ops Q (o :: rest) a w) : wpList P ops Q (o :: rest) a w := k
theorem gL (N : Option Tmp) {f : FuncId} {fn : Func} {as_ : Array Operand} {ts : Array TypeId} (hf : P.funcs[f]? = some fn) (args : Array Value) (k : Calls P f args w fun e w' => ∃ v, e = Ending.returned v ∧ wpList P ops Q rest (a.put N v) w')
    (h1 : oi.dst = N := by exact rfl) (h2 : oi.guard = none := by exact rfl) (h3 : (fn.name == "runtime.NumGoroutine") = false := by kernel_rfl) (h4 : fn.body.isSome = true := by exact rfl) (h5 : oi.op = .call { callee := .value (.func f), args := as_, argTypes := ts } := by exact rfl)
    (h6 : as_.map a.eval = args := by (try simp only [List.map_toArray, List.map_cons, List.map_nil]); first | done | rfl | (simp only [List.length_drop, List.length_take]; rfl)) : wpList P ops Q (oi :: rest) a w := goesL_ N h1 h2 hf h3 h4 args h5 h6 k
end
end Go.Proofs.YtldcelgbinenbaaDoorW.PrintWords
