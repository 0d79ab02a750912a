import Derived.RowKit
import Derived.Laws.Entries
import Derived.Orders
import Derived.Below
import Derived.Laws.Sem
import Derived.Laws.World
import Derived.Laws.StructEq
import Derived.Laws.Cells
import Derived.Laws.IdiomCopy
import Derived.Laws.Strings
set_option linter.unusedVariables false
set_option linter.unusedSimpArgs false
namespace Go.Proofs.YtlngoohfkaceoaaGreatDoor.Eng
open Go.RowKit
universe u v
def qij : Nat := 0
def qik : Nat := qij
def qil : Nat := qik
def qim : Nat := qil
def qin : Nat := qim
def qcA : Nat := qin
def bc {α : Type u} (b : Bool) (x y : α) : α := (fun _ : Nat => match b with | true => x | false => y) qcA
def _root_.Option.ob {α : Type u} {β : Type v} (x : Option α) (f : α → Option β) : Option β := (fun _ : Nat => match x with | some a => f a | none => none) qcA
inductive LK where
 | i (k : IntKind) | b | s | is (k : IntKind)
 deriving DecidableEq
abbrev LK.T : LK → Type | .i _ => Int | .b => Bool | .s => ByteArray | .is _ => List Int
abbrev Tp : List LK → Type
 | [] => Unit
 | [k] => k.T
 | k :: r => k.T × Tp r
def LK.z : (k : LK) → k.T | .i _ => (0 : Int) | .b => false | .s => (⟨#[]⟩ : ByteArray) | .is _ => ([] : List Int)
def Tp.z : (ks : List LK) → Tp ks
 | [] => ()
 | [k] => k.z
 | k :: j :: r => (k.z, Tp.z (j :: r))
def rdT (ks : List LK) (l : List (Tp ks)) (i : Int) : Tp ks := l.getD i.toNat (Tp.z ks)
inductive V where
 | int (k : IntKind) (n : Int)
 | tt | ff
 | bool (b : Bool)
 | cnd (p : Prop) (h : Decidable p)
 | str (s : ByteArray)
 | ints (k : IntKind) (l : List Int)
 | rows (ks : List LK) (l : List (Tp ks))
 | own (id : Nat)
 | osl (id : Nat) (lo hi : Option Int)
 | optr (id : Nat) (i : Int)
 | ptr (id off : Nat)
 | iptr (l : List V)
 | nils (k : Option IntKind)
 | nilp
 | fn (f : Nat)
 | glob (g : Nat)
 | clo (f : Nat) (l : List V)
 | nili
 | agg (l : List V)
 | tup (l : List V)
 | und
 | dead
inductive Blk where
 | cells (l : List V)
 | ints (k : IntKind) (l : List Int) (tail : Bool)
 | ice (k : IntKind) (l : List Int)
 | iter (s : ByteArray) (pos : Int)
 | gone
inductive Z where
 | int (k : IntKind) | bool | str | slice (k : Option IntKind) | ptr
 deriving DecidableEq
inductive TD where
 | int (k : IntKind) | bool | str | slice (el : Nat) | struct (fs : List (Nat × Nat)) | arr (n el : Nat) | ptr (el : Nat) | other
 deriving DecidableEq
structure TI where
 d : TD
 sz : Nat
 wd : Nat
 zs : List Z
 deriving DecidableEq
def TI.ag (t : TI) : Bool := match t.d with | .struct _ => true | .arr _ _ => true | _ => false
def Z.v : Z → V | .int k => .int k 0 | .bool => .ff | .str => .str ⟨#[]⟩ | .slice k => .nils k | .ptr => .nilp
def rd (xs : List Int) (i : Int) : Int := xs.getD i.toNat 0
def bt (s : ByteArray) (i : Int) : Int := if h : i.toNat < s.size then ((s[i.toNat]'h).toNat : Int) else 0
def mx (a b : Int) : Int := if a < b then b else a
def mn (a b : Int) : Int := if b < a then b else a
def shl (k : IntKind) (x y : Int) : Int := k.wrap (x * 2 ^ min y.toNat k.bits)
def shr (k : IntKind) (x y : Int) : Int := x / 2 ^ min y.toNat k.bits
def wr (k : IntKind) (n : Int) : Int :=
 match k with | .i64 => wrap64 n | .u32 => n % 4294967296 | .u16 => n % 65536 | .u8 => n % 256 | .u64 => IntKind.u64.wrap n | .i8 => IntKind.i8.wrap n | .i16 => IntKind.i16.wrap n | .i32 => IntKind.i32.wrap n
def qv : IntKind → IntKind → Bool
 | .i8, .i8 => true | .i16, .i16 => true | .i32, .i32 => true | .i64, .i64 => true
 | .u8, .u8 => true | .u16, .u16 => true | .u32, .u32 => true | .u64, .u64 => true | _, _ => false
def qj : List (Nat × V) → Nat → V
 | [], _ => .dead
 | (j, v) :: r, i => bc (Nat.beq j i) (v) (qj r i)
def qc : List (Nat × Blk) → Nat → Blk
 | [], _ => .gone
 | (j, v) :: r, i => bc (Nat.beq j i) (v) (qc r i)
def qbg : IntKind → Bool | .i8 => true | .i16 => true | .i32 => true | .i64 => true | _ => false
def qba (k : IntKind) (n : Int) : Bool := qbg k || decide (0 ≤ n)
def qaq : Value → V
 | .int k n => bc (qba k n) (.int k n) (.dead)
 | .bool true => .tt
 | .bool false => .ff
 | .string s => .str s
 | .slice none 0 0 => .nils none
 | .pointer none => .nilp
 | _ => .dead
def opV (t : Nat → V) : Operand → V
 | .tmp i => t i
 | .const v => qaq v
 | .func f => .fn f
 | .global g => .glob g
def qU (l : List Int) (lo hi : Option Int) : List Int :=
 match lo, hi with
 | none, none => l
 | none, some h => l.take h.toNat
 | some a, none => l.drop a.toNat
 | some a, some h => (l.take h.toNat).drop a.toNat
def vb : V → Option Bool
 | .tt => some true | .ff => some false | .bool b => some b | .cnd p h => some (@decide p h) | _ => none
def qaC (B : Nat → Blk) : V → Option (IntKind × List Int)
 | .ints k l => some (k, l)
 | .own id => match B id with | .ints k l _ => some (k, l) | .ice k l => some (k, l) | _ => none
 | .osl id lo hi => match B id with | .ints k l _ => some (k, qU l lo hi) | .ice k l => some (k, qU l lo hi) | _ => none
 | .nils (some k) => some (k, [])
 | _ => none
def qad : V → List V
 | .agg l => l
 | v => [v]
def qa3 : V → Bool | .dead => true | .und => true | .tup _ => true | _ => false
def qdv : List V → Bool | [] => true | x :: r => !qa3 x && qdv r
def qcP (v : V) (n : Nat) : Bool := Nat.beq (qad v).length n && !qa3 v
def qax : List V → Nat → List V → List V
 | l, _, [] => l
 | [], _, _ => []
 | x :: l, n + 1, cs => x :: qax l n cs
 | _ :: l, 0, c :: cs => c :: qax l 0 cs
inductive Kd where
 | i (k : IntKind) | b | s | is (k : IntKind) | rw (ks : List LK) | fn (f : Nat) | nl | np
inductive Kx where
 | lf (k : Kd) | ip (l : List Kd) | cl (f : Nat) (kss : List (List Kd)) | ag (l : List Kd) | bx (l : List Kd) | al (t : Nat) | ow (k : IntKind) | bo (k : IntKind) | bb (l : List Kd) | it | ar (k : IntKind)
 | ao (p : List Kd) (k : IntKind) (q : List Kd) | bxo (p : List Kd) (k : IntKind) (q : List Kd)
abbrev Fn : List Kd → Type → Type
 | [], R => R
 | .i _ :: r, R => Int → Fn r R
 | .b :: r, R => Bool → Fn r R
 | .s :: r, R => ByteArray → Fn r R
 | .is _ :: r, R => List Int → Fn r R
 | .rw ks :: r, R => List (Tp ks) → Fn r R
 | .fn _ :: r, R => Fn r R
 | .nl :: r, R => Fn r R
 | .np :: r, R => Fn r R
def app {R : Type} : (ks : List Kd) → Fn ks (Option R) → List V → Option R
 | [], f, [] => f
 | .i k :: r, f, .int k' n :: l => bc (qv k k') (app r (f n) l) (none)
 | .b :: r, f, .bool b :: l => app r (f b) l
 | .s :: r, f, .str s :: l => app r (f s) l
 | .is k :: r, f, .ints k' x :: l => bc (qv k k') (app r (f x) l) (none)
 | .rw ks :: r, f, .rows ks' x :: l => if h : ks' = ks then app r (f (h ▸ x)) l else none
 | .fn g :: r, f, .fn g' :: l => bc (Nat.beq g g') (app r f l) (none)
 | .nl :: r, f, .nili :: l => app r f l
 | .np :: r, f, .nilp :: l => app r f l
 | _, _, _ => none
def All : (ks : List Kd) → (List V → Prop) → Prop
 | [], P => P []
 | .i k :: r, P => ∀ n : Int, All r fun l => P (.int k n :: l)
 | .b :: r, P => ∀ b : Bool, All r fun l => P (.bool b :: l)
 | .s :: r, P => ∀ s : ByteArray, All r fun l => P (.str s :: l)
 | .is k :: r, P => ∀ x : List Int, All r fun l => P (.ints k x :: l)
 | .rw ks :: r, P => ∀ x : List (Tp ks), All r fun l => P (.rows ks x :: l)
 | .fn g :: r, P => All r fun l => P (.fn g :: l)
 | .nl :: r, P => All r fun l => P (.nili :: l)
 | .np :: r, P => All r fun l => P (.nilp :: l)
def qF : Kd → V → Bool
 | .i k, .int k' _ => qv k k' | .b, .bool _ => true | .s, .str _ => true | .is k, .ints k' _ => qv k k' | .rw ks, .rows ks' _ => decide (ks' = ks) | .fn f, .fn g => Nat.beq f g | .nl, .nili => true | .np, .nilp => true | _, _ => false
def qd : List Kd → List V → Bool
 | [], [] => true | k :: ks, v :: vs => qF k v && qd ks vs | _, _ => false
def qA : Kx → List Kd
 | .lf k => [k] | .ip l => l | .cl _ kss => kss.flatten | .ag l => l | .bx l => l | .al _ => [] | .ow k => [.is k] | .bo k => [.is k] | .bb l => l | .it => [.s, .i .i64] | .ar k => [.is k] | .ao p k q => p ++ .is k :: q | .bxo p k q => p ++ .is k :: q
def qo : List Kx → List Kd
 | [] => [] | k :: r => qA k ++ qo r
structure Sig : Type 1 where
 ps : List Kx
 rs : List Kx
 wb : List Kd
 R : Type
 mkR : Fn (qo rs ++ wb) (Option R)
 un : R → List V
def Kd.scal : Kd → Bool | .is _ => false | .rw _ => false | _ => true
def Kx.scal : Kx → Bool | .lf k => k.scal | .ag l => l.all Kd.scal | .ow _ => true | .ao p _ q => p.all Kd.scal && q.all Kd.scal | _ => false
def Sig.scal (S : Sig) : Bool := S.rs.all Kx.scal && S.ps.all fun k => match k with | .bb l => l.all Kd.scal | _ => true
structure Fun : Type 1 where
 S : Sig
 f : Fn (qo S.ps) (Option S.R)
structure Cut : Type 1 where
 code : Nat
 dirs : List Bool
 vs : List (Nat × Kx)
structure Cfg : Type 1 where
 T : Nat → Option TI
 G : Nat → List Fun
 nt : Nat
 cuts : List Cut
 frz : List Nat := []
 M0 : Nat → Nat → Option Value := fun _ _ => none
section
variable {R : Type}
abbrev KV (R : Type) := V → List (Nat × Blk) → Nat → Option R
def ifb (v : V) (yes no : Option R) : Option R :=
 match v with
 | .tt => yes | .ff => no | .bool b => if b = true then yes else no | .cnd p h => @ite _ p h yes no | _ => none
def nzB (c : Bool) (b : Int) (x : Option R) : Option R := (fun _ : Nat => match c with | true => x | false => if b = 0 then none else x) qcA
def qfy (op : BinOp) (k : IntKind) (a b : Int) (c : Bool) (K : V → Option R) : Option R :=
 match op with
 | .add => K (.int k (wr k (a + b)))
 | .sub => K (.int k (wr k (a - b)))
 | .mul => K (.int k (wr k (a * b)))
 | .quo => nzB c b (K (.int k (wr k (Int.tdiv a b))))
 | .rem => nzB c b (K (.int k (Int.tmod a b)))
 | .and => K (.int k (Go.bits .and k a b))
 | .or => K (.int k (Go.bits .or k a b))
 | .xor => K (.int k (Go.bits .xor k a b))
 | .andNot => K (.int k (Go.bits .andNot k a b))
 | .eql => K (.cnd (a = b) (Int.instDecidableEq a b))
 | .neq => K (.cnd (¬ a = b) (@instDecidableNot _ (Int.instDecidableEq a b)))
 | .lss => K (.cnd (a < b) (Int.decLt a b))
 | .leq => K (.cnd (a ≤ b) (Int.decLe a b))
 | .gtr => K (.cnd (a > b) (Int.decLt b a))
 | .geq => K (.cnd (a ≥ b) (Int.decLe b a))
 | _ => none
def qeG (op : BinOp) (k : IntKind) (a : Int) (yk : IntKind) (b : Int) (c : Option Nat) (K : V → Option R) : Option R :=
 match op, c with
 | .shl, some n => K (.int k (wr k (a * ((2 ^ n : Nat) : Int))))
 | .shr, some n => K (.int k (a / ((2 ^ n : Nat) : Int)))
 | .shl, none => bc (qbg yk) ((if 0 ≤ b then K (.int k (shl k a b)) else none)) (K (.int k (shl k a b)))
 | .shr, none => bc (qbg yk) ((if 0 ≤ b then K (.int k (shr k a b)) else none)) (K (.int k (shr k a b)))
 | _, _ => none
def qep : Operand → Bool | .const (.int _ (.ofNat (_ + 1))) => true | .const (.int _ (.negSucc _)) => true | _ => false
def qeL (k : IntKind) : Operand → Option Nat | .const (.int _ (.ofNat n)) => bc (Nat.blt n k.bits) (some n) (none) | _ => none
def qc3 : BinOp → Bool | .shl => true | .shr => true | _ => false
def qbC (C : Cfg) (t : Nat) : Bool := match C.T t with | some ti => (match ti.d with | .bool => true | _ => false) | none => false
def qbX (C : Cfg) (t : Nat) : Bool := match C.T t with | some ti => (match ti.d with | .str => true | _ => false) | none => false
def qdR (op : BinOp) (tb : Bool) (y : Operand) (v u : V) (K : V → Option R) : Option R :=
 match v, u with
 | .int k a, .int k' b => bc (qc3 op) (qeG op k a k' b (qeL k y) K) (bc (qv k k') (qfy op k a b (qep y) K) (none))
 | .str a, .str b =>
  match op with
  | .add => if a.size + b.size < 9223372036854775808 then K (.str (a ++ b)) else none
  | .eql => K (.cnd (a = b) inferInstance)
  | .neq => K (.cnd (¬ a = b) inferInstance)
  | _ => none
 | v, u =>
  match vb v, vb u, op, tb with
  | some a, some b, .eql, true => K (.cnd (a = b) inferInstance)
  | some a, some b, .neq, true => K (.cnd (¬ a = b) inferInstance)
  | _, _, _, _ => none
def qc1 (C : Cfg) (t : Nat) : Bool := match C.T t with | some ti => (match ti.d with | .ptr _ => true | _ => false) | none => false
def qey (tp : Bool) (op : BinOp) (v u : V) : Option V :=
 match tp, op, v, u with
 | true, .eql, .ptr _ _, .nilp => some .ff
 | true, .neq, .ptr _ _, .nilp => some .tt
 | true, .eql, .nilp, .nilp => some .tt
 | true, .neq, .nilp, .nilp => some .ff
 | _, _, _, _ => none
def qbR (C : Cfg) (t f : Nat) : Option (Nat × TI) :=
 match C.T t with
 | some { d := .struct fs, .. } => (fs[f]?).ob fun q => (C.T q.2).ob fun ti => some (q.1, ti)
 | _ => none
def qaW (ti : TI) (l : List V) (off : Nat) : Option V :=
 bc ti.ag (bc (Nat.ble (off + ti.sz) l.length) (some (.agg ((l.drop off).take ti.sz))) none) (l[off]?)
def Z.sc : Z → Bool | .int _ => true | _ => false
def scs (l : List Z) : Bool := l.all Z.sc && !l.isEmpty
def qcW (T : Nat → Option TI) (E : Nat → V → V → Option Bool) (l m : List V) : List (Nat × Nat) → Option Bool
 | [] => some true
 | (o, t) :: r => (T t).ob fun ti => (qaW ti l o).ob fun x => (qaW ti m o).ob fun y => (E t x y).ob fun p => (qcW T E l m r).ob fun q => some (p && q)
def eqT (T : Nat → Option TI) : Nat → Nat → V → V → Option Bool
 | 0, _, _, _ => none
 | d + 1, t, x, y => (T t).ob fun ti => match ti.d, x, y with
  | .int _, .int k a, .int k' b => bc (qv k k') (some (decide (a = b))) none
  | .struct fs, .agg l, .agg m => bc (scs ti.zs) (qcW T (eqT T d) l m fs) none
  | _, _, _ => none
def qdI (C : Cfg) (op : BinOp) (t : Nat) (x y : V) : Option Bool :=
 match op, x, y with
 | .eql, .agg l, .agg m => eqT C.T 5 t (.agg l) (.agg m)
 | .neq, .agg l, .agg m => (eqT C.T 5 t (.agg l) (.agg m)).ob fun r => some (!r)
 | _, _, _ => none
def qck (pl : Nat → Option (Nat × TI)) : List (Nat × V) → List V → Option (List V)
 | [], l => some l
 | (f, v) :: r, l => match pl f with
  | some (off, ti) => bc (qcP v ti.sz && Nat.ble (off + ti.sz) l.length) (qck pl r (qax l off (qad v))) (none)
  | none => none
def qeZ (C : Cfg) (t : Nat) (c : Bool) (v : V) (i : Int) (K : V → Option R) : Option R :=
 (C.T t).ob fun ti => match ti.d, v with
  | .arr n e, .ptr id off => (C.T e).ob fun te => bc (c && Nat.ble (i.toNat + 1) n && !(Nat.beq te.sz 0)) (K (.ptr id (off + i.toNat * te.sz))) none
  | _, _ => none
def qdj (te : TI) (l : List V) (i : Int) (K : V → Option R) : Nat → Nat → Option R
 | _, 0 => none
 | j, m + 1 => (qaW te l (j * te.sz)).ob fun v => if i = Int.ofNat j then K v else qdj te l i K (j + 1) m
def qbS (k : IntKind) : List (Nat × V) → List Int → Option (List Int)
 | [], l => some l
 | (j, .int k' n) :: r, l => bc (qv k k' && Nat.blt j l.length) (qbS k r (l.set j n)) (none)
 | _, _ => none
def imm (B : Nat → Blk) (k : Option IntKind) : V → Option V
 | .own id => (qaC B (.own id)).ob fun q => some (.ints q.1 q.2)
 | .osl id lo hi => (qaC B (.osl id lo hi)).ob fun q => some (.ints q.1 q.2)
 | .nils (some k) => some (.ints k [])
 | .nils none => (match k with | some k => some (.ints k []) | none => none)
 | .tt => some (.bool true) | .ff => some (.bool false) | .cnd p h => some (.bool (@decide p h))
 | .int k n => some (.int k n) | .bool b => some (.bool b) | .str s => some (.str s) | .ints k l => some (.ints k l) | .rows ks l => some (.rows ks l) | .fn f => some (.fn f) | .nili => some .nili | .nilp => some .nilp
 | _ => none
def qa2 (B : Nat → Blk) : List V → Option (List V)
 | [] => some []
 | v :: r => (imm B none v).ob fun x => (qa2 B r).ob fun l => some (x :: l)
def qai : V → List Nat
 | .own id => [id] | .osl id _ _ => [id] | _ => []
def qQ : List V → List Nat
 | [] => [] | v :: r => qai v ++ qQ r
def qT (B : Nat → Blk) : List Nat → List (Nat × Blk)
 | [] => []
 | id :: r => match B id with | .ints k l _ => (id, .ice k l) :: qT B r | _ => qT B r
def qa6 (C : Cfg) (t : Nat) : Option IntKind :=
 match C.T t with
 | some { d := .slice e, .. } => (match C.T e with | some { d := .int k, .. } => some k | _ => none)
 | _ => none
def qaE (C : Cfg) (t : Nat) : Option TI :=
 match C.T t with
 | some { d := .slice e, .. } => C.T e
 | _ => none
def qc2 (k : IntKind) : Nat → List Z → Bool
 | 0, [] => true
 | n + 1, .int k' :: r => qv k k' && qc2 k n r
 | _, _ => false
def qce (C : Cfg) (t : Nat) : Option (Nat × IntKind) :=
 match C.T t with
 | some { d := .arr n e, zs, .. } => (match C.T e with | some { d := .int k, .. } => bc (Nat.blt 0 n && qc2 k n zs) (some (n, k)) none | _ => none)
 | _ => none
def qgh (M0 : Nat → Nat → Option Value) (g : Nat) (k : IntKind) (i : Int) : Bool := match M0 g i.toNat with | some (.int k' n) => qv k k' && qba k n | _ => false
def qeI (M0 : Nat → Nat → Option Value) (g : Nat) (i : Int) : Int := match M0 g i.toNat with | some (.int _ n) => n | _ => 0
def lkV : (k : LK) → k.T → V | .i k, n => .int k n | .b, b => .bool b | .s, s => .str s | .is k, l => .ints k l
def tpV : (ks : List LK) → Tp ks → List V
 | [], _ => []
 | [k], x => [lkV k x]
 | k :: j :: r, x => lkV k x.1 :: tpV (j :: r) x.2
def vLk : (k : LK) → V → Option k.T
 | .i k, .int k' n => bc (qv k k') (some n) (none)
 | .b, .bool b => some b
 | .s, .str s => some s
 | .is k, .ints k' l => bc (qv k k') (some l) (none)
 | _, _ => none
def vTp : (ks : List LK) → List V → Option (Tp ks)
 | [], [] => some ()
 | [k], [v] => vLk k v
 | k :: j :: r, v :: vs => (vLk k v).ob fun x => (vTp (j :: r) vs).ob fun y => some (x, y)
 | _, _ => none
def lks : List Z → Option (List LK)
 | [] => some []
 | z :: r => (match z with | .int k => some (LK.i k) | .bool => some LK.b | .str => some LK.s | .slice (some k) => some (LK.is k) | _ => none).ob fun x => (lks r).ob fun l => some (x :: l)
def qbT (B : Nat → Blk) (ks : List LK) : List (Nat × V) → Nat → Option (List (Tp ks) × List Nat)
 | [], _ => some ([], [])
 | (j, v) :: r, i => bc (Nat.beq i j && !qa3 v) ((qa2 B (qad v)).ob fun x => (vTp ks x).ob fun y => (qbT B ks r (i + 1)).ob fun q => some (y :: q.1, qQ (qad v) ++ q.2)) (none)
def qbc (c : Bool) (i : Int) (n : Int) (K : Option R) : Option R := match c with | true => (if i < n then K else none) | false => if 0 ≤ i then if i < n then K else none else none
def qbq : Operand → Bool | .const (.int _ (.ofNat _)) => true | _ => false
def qfx (B : Nat → Blk) (sz : Nat) (c : Bool) (v : V) (i : Int) (K : V → Option R) : Option R :=
 match v with
 | .ints k l => bc (Nat.beq 1 sz) (qbc c i (l.length : Int) (K (.iptr [.int k (rd l i)]))) (none)
 | .rows ks l => bc (Nat.beq ks.length sz) (qbc c i (l.length : Int) (K (.iptr (tpV ks (rdT ks l i))))) (none)
 | .own id => match B id with
  | .ints _ l _ => bc (Nat.beq 1 sz) (qbc c i (l.length : Int) (K (.optr id i))) (none)
  | .ice _ l => bc (Nat.beq 1 sz) (qbc c i (l.length : Int) (K (.optr id i))) (none)
  | _ => none
 | _ => none
def qc9 (B : Nat → Blk) (ti : TI) : V → Option V
 | .ptr id off => match B id with | .cells l => qaW ti l off | _ => none
 | .optr id i => match B id with | .ints k l _ => bc (!ti.ag) (some (.int k (rd l i))) none | .ice k l => bc (!ti.ag) (some (.int k (rd l i))) none | _ => none
 | .iptr l => qaW ti l 0
 | _ => none
def qge (B : Nat → Blk) (ti : TI) (a x : V) : Option (List (Nat × Blk)) :=
 match a with
 | .ptr id off => match B id with
  | .cells l => bc (qcP x ti.sz && qdv (qad x) && Nat.ble (off + ti.sz) l.length) (some [(id, .cells (qax l off (qad x)))]) (none)
  | _ => none
 | .optr id i => match B id, x with
  | .ints k l t, .int k' n => bc (qv k k' && Nat.beq ti.sz 1) (some [(id, .ints k (l.set i.toNat n) t)]) (none)
  | _, _ => none
 | _ => none
def qfE : V → Bool | .int _ _ => true | .bool _ => true | .str _ => true | _ => false
def qg5 : V → Bool | .iptr _ => true | _ => false
def qg6 {α : Type} : List α → Bool | [] => true | _ => false
def qg3 (l : List Nat) : Option Nat → Bool | some d => l.any (Nat.beq d) | none => false
def qcC : List (List Kd) → List V → Option (List V)
 | [], [] => some []
 | ks :: r, .iptr l :: vs => bc (qd ks l) ((qcC r vs).ob fun x => some (l ++ x)) none
 | _, _ => none
def qcz : List (List Kd) → List V → List V
 | [], _ => []
 | ks :: r, l => .iptr (l.take ks.length) :: qcz r (l.drop ks.length)
structure Ar where
 ls : List V
 O : List Blk
 U : List (Nat × Blk)
 pn : List Nat
 ns : List Nat
def qbA (B : Nat → Blk) (k : Option IntKind) (kd : Kd) (v : V) : Option V :=
 match kd, v with
 | .rw ks, .nils none => some (.rows ks [])
 | _, v => imm B k v
def qac (B : Nat → Blk) (dr : Bool) (k : Option IntKind) : Kx → V → Option Ar
 | .lf kd, v => (qbA B k kd v).ob fun x => bc (qF kd x) (some ⟨[x], [], [], [], qai v⟩) (none)
 | .ag ks, v => (match v with | .agg l => (qa2 B l).ob fun x => bc (qd ks x) (some ⟨x, [], [], [], qQ l⟩) (none) | _ => none)
 | .ip ks, v => (match v with | .iptr l => bc (qd ks l) (some ⟨l, [], [], [], []⟩) (none) | _ => none)
 | .cl f kss, v => (match v with | .clo f' l => bc (Nat.beq f f') ((qcC kss l).ob fun x => some ⟨x, [], [], [], []⟩) (none) | _ => none)
 | .ow k, v => bc (dr) (none) ((match v with
  | .own id => (match B id with | .ints k' l true => bc (qv k k') (some ⟨[.ints k l], [.ints k l true], [(id, .gone)], [id], []⟩) (none) | _ => none)
  | .osl id none (some h) => (match B id with | .ints k' l true => bc (qv k k') (some ⟨[.ints k (l.take h.toNat)], [.ints k (l.take h.toNat) true], [(id, .gone)], [id], []⟩) (none) | _ => none)
  | _ => none))
 | .bo k, v => bc (dr) (none) ((match v with
  | .own id => (match B id with | .ints k' l _ => bc (qv k k') (some ⟨[.ints k l], [.ints k l false], [], [id], []⟩) (none) | _ => none)
  | .osl id lo hi => (match B id with | .ints k' l _ => bc (qv k k') (some ⟨[.ints k (qU l lo hi)], [.ints k (qU l lo hi) false], [], [id], []⟩) (none) | _ => none)
  | _ => none))
 | .bb ks, v => bc (dr) (none) ((match v with
  | .ptr id 0 => (match B id with | .cells l => (qa2 B l).ob fun x => bc (qd ks x) (some ⟨x, [.cells x], [], [id], qQ l⟩) (none) | _ => none)
  | _ => none))
 | _, _ => none
def qa8 (C : Nat → Option IntKind) (B : Nat → Blk) (dr : Bool) : List Nat → List Kx → List V → Option Ar
 | _, [], [] => some ⟨[], [], [], [], []⟩
 | ty, k :: ks, v :: vs => (qac B dr (C (ty.headD 0)) k v).ob fun q => (qa8 C B dr (ty.drop 1) ks vs).ob fun q' =>
   some ⟨q.ls ++ q'.ls, q.O ++ q'.O, q.U ++ q'.U, q.pn ++ q'.pn, q.ns ++ q'.ns⟩
 | _, _, _ => none
def qg (nx : Nat) : List Kx → List V → List V × List Blk × List V
 | [], l => ([], [], l)
 | .lf _ :: ks, v :: l => match qg nx ks l with | (xs, bs, r) => (v :: xs, bs, r)
 | .ag js :: ks, l => match qg nx ks (l.drop js.length) with | (xs, bs, r) => (.agg (l.take js.length) :: xs, bs, r)
 | .ow _ :: ks, .ints k x :: l => match qg (nx + 1) ks l with | (xs, bs, r) => (.own nx :: xs, .ints k x true :: bs, r)
 | .bx js :: ks, l => match qg (nx + 1) ks (l.drop js.length) with | (xs, bs, r) => (.ptr nx 0 :: xs, .cells (l.take js.length) :: bs, r)
 | .ao p k q :: ks, l => match l.drop p.length with
  | .ints _ x :: m => match qg (nx + 1) ks (m.drop q.length) with | (xs, bs, r) => (.agg (l.take p.length ++ .own nx :: m.take q.length) :: xs, .ints k x true :: bs, r)
  | _ => ([], [], [])
 | _, _ => ([], [], [])
def qaY : List V → V
 | [v] => v
 | l => .tup l
def qaj : Nat → List Blk → List (Nat × Blk)
 | _, [] => []
 | n, b :: r => (n, b) :: qaj (n + 1) r
def qby (B : Nat → Blk) (a : V) (l : List V) : Option (List (Nat × Blk)) :=
 match a, l with
 | .own id, [.ints k x] => (match B id with | .ints _ _ t => some [(id, .ints k x t)] | _ => none)
 | .osl id lo hi, [.ints k x] => (match B id with
  | .ints _ y t => (match lo, hi with
   | some a, some h => some [(id, .ints k (y.take a.toNat ++ x ++ y.drop h.toNat) t)]
   | none, some h => some [(id, .ints k (x ++ y.drop h.toNat) t)]
   | some a, none => some [(id, .ints k (y.take a.toNat ++ x) t)]
   | none, none => some [(id, .ints k x t)])
  | _ => none)
 | .ptr id 0, l => (match B id with | .cells _ => some [(id, .cells l)] | _ => none)
 | .dead, [] => some []
 | _, _ => none
def qbo : List Kx → List V → V
 | .bo _ :: _, v :: _ => v
 | .bb _ :: _, v :: _ => v
 | _ :: ks, _ :: r => qbo ks r
 | _, _ => .dead
def qdL (pn ns : List Nat) : Bool := match pn with | [] => true | [x] => !(ns.any (Nat.beq x)) | _ => false
def qdU (C : Cfg) (B : Nat → Blk) (nx : Nat) (tys : List Nat) (vs : List V) (dr : Bool) (F : Fun) (K : KV R) (other : Option R) : Option R :=
  match qa8 (qa6 C) B dr tys F.S.ps vs with
  | some q => bc (qdL q.pn q.ns && (!dr || F.S.scal || isNil (qT B q.ns))) ((app (qo F.S.ps) F.f q.ls).bind fun r =>
        match qg nx F.S.rs (F.S.un r) with
        | (ys, bs, rest) => (qby B (qbo F.S.ps vs) rest).ob fun W =>
          K (qaY ys) (qaj nx bs ++ W ++ q.U ++ (bc (F.S.scal) ([]) (qT B q.ns))) (nx + bs.length)) (none)
  | none => other
where isNil : List (Nat × Blk) → Bool | [] => true | _ => false
def qcO (C : Cfg) (B : Nat → Blk) (nx : Nat) (tys : List Nat) (vs : List V) (dr : Bool) (K : KV R) : List Fun → Option R
 | [] => none
 | F :: r => qdU C B nx tys vs dr F K (qcO C B nx tys vs dr K r)
def qgf (l : List Int) : ByteArray := ⟨(l.map fun n => UInt8.ofNat n.toNat).toArray⟩
def qcN (s : ByteArray) : List Int := s.data.toList.map fun b => (b.toNat : Int)
def qgg (s : ByteArray) (lo hi : Option (Option Int)) (K : V → Option R) : Option R :=
 match lo, hi with
 | some none, some none => K (.str s)
 | some none, some (some h) => if 0 ≤ h then if h ≤ (s.size : Int) then K (.str (s.extract 0 h.toNat)) else none else none
 | some (some a), some none => if 0 ≤ a then if a ≤ (s.size : Int) then K (.str (s.extract a.toNat s.size)) else none else none
 | some (some a), some (some h) => if 0 ≤ a then if a ≤ h then if h ≤ (s.size : Int) then K (.str (s.extract a.toNat h.toNat)) else none else none else none
 | _, _ => none
def qdw (C : Cfg) (t : Nat) : V → V
 | .nils none => .nils (qa6 C t)
 | v => v
def qak (g : Operand → V) (l : List Operand) : List V := l.map g
def ql (C : Cfg) (g : Operand → V) (B : Nat → Blk) (nx : Nat) (dr : Bool) (o : Oper) (K : KV R) : Option R :=
  match o.op with
  | .move x => K (qdw C o.type (g x)) [] nx
  | .assign x => K (qdw C o.type (g x)) [] nx
  | .pick c a b => match g c with | .tt => K (g a) [] nx | .ff => K (g b) [] nx | .bool x => if x = true then K (g a) [] nx else K (g b) [] nx | .cnd p h => @ite _ p h (K (g a) [] nx) (K (g b) [] nx) | _ => none
  | .alloc t => match qce C t with
    | some (n, k) => K (.ptr nx 0) [(nx, .ints k (List.replicate n 0) false)] (nx + 1)
    | none => match C.T t with | some ti => K (.ptr nx 0) [(nx, .cells (ti.zs.map Z.v))] (nx + 1) | none => none
  | .box _ x => bc (qg3 C.frz o.dst && !dr)
      (match qa2 B (qad (g x)) with | some l => bc (l.all qfE) (K (.iptr l) [] nx) none | none => none)
      (bc (!qa3 (g x)) (K (.ptr nx 0) [(nx, .cells (qad (g x)))] (nx + 1)) none)
  | .makeFunc (.func f) first cap => bc (qg6 first.toList && (qak g cap.toList).all qg5) (K (.clo f (qak g cap.toList)) [] nx) none
  | .build t parts => match C.T t with
    | some ti => match ti.d with
      | .struct _ => match qck (qbR C t) (parts.toList.map fun p => (p.1, g p.2)) (ti.zs.map Z.v) with | some l => K (.agg l) [] nx | none => none
      | .arr _ e => (C.T e).ob fun te => (qck (fun f => some (f * te.sz, te)) (parts.toList.map fun p => (p.1, g p.2)) (ti.zs.map Z.v)).ob fun l => K (.agg l) [] nx
      | _ => none
    | none => none
  | .buildSlice t n parts => match qa6 C t with
    | some k => match qbS k (parts.toList.map fun p => (p.1, g p.2)) (List.replicate n 0) with
      | some l => bc (Nat.ble n 16777216) (K (.own nx) [(nx, .ints k l true)] (nx + 1)) none
      | none => none
    | none => match qaE C t with
      | some ti => (lks ti.zs).ob fun ks => (qbT B ks (parts.toList.map fun p => (p.1, g p.2)) 0).ob fun q => bc (Nat.beq ks.length ti.sz && Nat.beq q.1.length n && Nat.ble (n * ti.sz) 16777216 && !(Nat.beq ti.sz 0) && (!dr || isNil (qT B q.2))) (K (.rows ks q.1) (qT B q.2) nx) (none)
      | none => none
  | .load t a => (C.T t).ob fun ti => (qc9 B ti (g a)).ob fun v => K v [] nx
  | .store t a x => (C.T t).ob fun ti => (qge B ti (g a) (g x)).ob fun U => K .und U nx
  | .nilCheck x => match g x with | .ptr id off => K (.ptr id off) [] nx | _ => none
  | .binOp op t x y _ => match qdI C op t (g x) (g y) with
    | some b => K (.bool b) [] nx
    | none => match qey (qc1 C t) op (g x) (g y) with
      | some b => K b [] nx
      | none => qdR op (qbC C t) y (g x) (g y) fun v => K v [] nx
  | .unOp op _ x => match op, g x with
    | .neg, .int k n => K (.int k (wr k (-n))) [] nx
    | .xor, .int k n => K (.int k (Go.bits .xor k (bc (qbg k) (-1) (k.max)) n)) [] nx
    | .not, .tt => K .ff [] nx
    | .not, .ff => K .tt [] nx
    | .not, .bool b => K (.bool (!b)) [] nx
    | .not, .cnd p h => K (.cnd (¬ p) (@instDecidableNot p h)) [] nx
    | _, _ => none
  | .convert src dst x => match C.T src, C.T dst, g x with
    | some _, some { d := .int k, .. }, .int _ n => K (.int k (wr k n)) [] nx
    | some { d := .str, .. }, some { d := .slice _, .. }, .str s => bc (isU8 (qa6 C dst)) (K (.own nx) [(nx, .ints .u8 (qcN s) true)] (nx + 1)) none
    | some { d := .slice _, .. }, some { d := .str, .. }, v => bc (isU8 (qa6 C src)) (match qaC B v with | some (.u8, l) => K (.str (qgf l)) [] nx | _ => none) none
    | _, _, _ => none
  | .makeSlice t x y => match qaE C t, qa6 C t, g x, g y with
    | some ti, some k, .int .i64 n, .int .i64 c =>
      match sameOp x y with
      | true => if 0 ≤ n then if n.toNat ≤ 281474976710656 / ti.wd then K (.own nx) [(nx, .ints k (List.replicate n.toNat 0) true)] (nx + 1) else none else none
      | false => if 0 ≤ n then if n ≤ c then if c.toNat ≤ 281474976710656 / ti.wd then K (.own nx) [(nx, .ints k (List.replicate n.toNat 0) true)] (nx + 1) else none else none else none
    | _, _, _, _ => none
  | .range t x => match g x with
    | .str s => bc (qbX C t) (K (.ptr nx 0) [(nx, .iter s 0)] (nx + 1)) none
    | _ => none
  | .next it true => match g it with
    | .ptr id 0 => match B id with
      | .iter s p => if p.toNat < s.size then K (.tup [.tt, .int .i64 p, .int .i32 ((Utf8.decode s p.toNat).1 : Int)]) [(id, .iter s (p + ((Utf8.decode s p.toNat).2 : Int)))] nx else K (.tup [.ff]) [] nx
      | _ => none
    | _ => none
  | .slice t x lo hi none => bc (qbX C t) (match g x with | .str s => qgg s (optI g lo) (optI g hi) fun v => K v [] nx | _ => none) <| match qce C t with
   | some (n, k) => (match g x, optI g lo, optI g hi with
    | .ptr id 0, some (some a), some none => match B id with | .ints k' l _ => bc (qv k k') (if n = l.length then if 0 ≤ a then if a ≤ (l.length : Int) then K (.osl id (some a) none) [] nx else none else none else none) none | _ => none
    | .ptr id 0, some (some a), some (some h) => match B id with | .ints k' l _ => bc (qv k k') (if n = l.length then if 0 ≤ a then if a ≤ h then if h ≤ (l.length : Int) then K (.osl id (some a) (some h)) [] nx else none else none else none else none) none | _ => none
    | .ptr id 0, some none, some (some h) => match B id with | .ints k' l _ => bc (qv k k') (if n = l.length then if 0 ≤ h then if h ≤ (l.length : Int) then K (.osl id (some 0) (some h)) [] nx else none else none else none) none | _ => none
    | _, _, _ => none)
   | none => bc (isUnit (qaE C t)) (match g x, optI g lo, optI g hi with
    | .ints k l, some none, some (some h) => if 0 ≤ h then if h ≤ (l.length : Int) then K (.ints k (l.take h.toNat)) [] nx else none else none
    | .ints k l, some (some a), some none => if 0 ≤ a then if a ≤ (l.length : Int) then K (.ints k (l.drop a.toNat)) [] nx else none else none
    | .own id, some none, some (some h) => match B id with
      | .ints _ l _ => if 0 ≤ h then if h ≤ (l.length : Int) then K (.osl id none (some h)) [] nx else none else none
      | .ice _ l => if 0 ≤ h then if h ≤ (l.length : Int) then K (.osl id none (some h)) [] nx else none else none
      | _ => none
    | .own id, some (some a), some (some h) => match B id with
      | .ints _ l _ => if 0 ≤ a then if a ≤ h then if h ≤ (l.length : Int) then K (.osl id (some a) (some h)) [] nx else none else none else none
      | _ => none
    | _, _, _ => none) none
  | .fieldAddr t x f => match g x, qbR C t f with
    | .ptr id off, some (fo, ti) => bc (Nat.beq ti.sz 0) (none) (K (.ptr id (off + fo)) [] nx)
    | .iptr l, some (fo, ti) => bc (Nat.beq ti.sz 0) (none) (K (.iptr (l.drop fo)) [] nx)
    | _, _ => none
  | .field t x f => match g x, qbR C t f with
    | .agg l, some (fo, ti) => match qaW ti l fo with | some v => K v [] nx | none => none
    | _, _ => none
  | .indexAddr t x ix => match qce C t with
   | some (n, k) => match g x, g ix with
    | .glob gl, .int _ i => qbc (qbq ix) i (n : Int) (if qgh C.M0 gl k i = true then K (.iptr [.int k (qeI C.M0 gl i)]) [] nx else none)
    | .ptr id 0, .int _ i => match B id with | .ints k' l _ => bc (qv k k') (if n = l.length then qbc (qbq ix) i (l.length : Int) (K (.optr id i) [] nx) else none) none | _ => none
    | _, _ => none
   | none => match qaE C t, g ix with
    | some ti, .int _ i => qfx B ti.sz (qbq ix) (g x) i fun v => K v [] nx
    | none, .int _ i => qeZ C t (qbq ix) (g x) i fun v => K v [] nx
    | _, _ => none
  | .index t x ix => match g x, g ix, qbX C t with
    | .str s, .int _ i, true => qbc (qbq ix) i (s.size : Int) (K (.int .u8 (bt s i)) [] nx)
    | .agg l, .int _ i, false => (C.T t).ob fun ti => match ti.d with
      | .arr n e => (C.T e).ob fun te => qdj te l i (fun v => K v [] nx) 0 n
      | _ => none
    | _, _, _ => none
  | .extract x n => match g x with
    | .tup l => match l[n]? with | some v => K v [] nx | none => none
    | _ => none
  | .call { callee := .value f, args, argTypes } => match g f with
    | .fn f => qcO C B nx argTypes.toList (qak g args.toList) dr K (C.G f)
    | .clo f l => qcO C B nx argTypes.toList (qak g args.toList ++ l) dr K (C.G f)
    | _ => none
  | .call { callee := .builtin b, args, argTypes } => match b, args.toList, argTypes.toList with
    | .len, [x], t :: _ => match g x with
      | .str s => bc (qbX C t) (K (.int .i64 (s.size : Int)) [] nx) none
      | .rows _ l => bc (qaE C t).isSome (K (.int .i64 (l.length : Int)) [] nx) none
      | .nils none => bc (qaE C t).isSome (K (.int .i64 0) [] nx) none
      | v => match qaC B v with | some (_, l) => bc (qaE C t).isSome (K (.int .i64 (l.length : Int)) [] nx) none | none => none
    | .max, [x, y], _ => match g x, g y with | .int k a, .int k' b => bc (qv k k') (K (.int k (mx a b)) [] nx) (none) | _, _ => none
    | .min, [x, y], _ => match g x, g y with | .int k a, .int k' b => bc (qv k k') (K (.int k (mn a b)) [] nx) (none) | _, _ => none
    | .append, [x, y], t :: u :: _ => match qa6 C t, qaC B (g y) with
      | some k, some (k', r) => bc (qv k k' && smallW (qaE C t) && (qaE C u).isSome) (match g x with
          | .nils _ => if r.length < 35184372088832 then K (.own nx) [(nx, .ints k r true)] (nx + 1) else none
          | .own id => match B id with
            | .ints k2 l true => bc (qv k k2) (if l.length + r.length < 35184372088832 then K (.own nx) [(nx, .ints k (l ++ r) true), (id, .gone)] (nx + 1) else none) none
            | _ => none
          | _ => none) (none)
      | _, _ => none
    | _, _, _ => none
  | _ => none
where
 isNil : List (Nat × Blk) → Bool | [] => true | _ => false
 sameOp : Operand → Operand → Bool
  | .tmp a, .tmp b => Nat.beq a b | _, _ => false
 isUnit : Option TI → Bool | some ti => Nat.beq ti.sz 1 | none => false
 isU8 : Option IntKind → Bool | some .u8 => true | _ => false
 smallW : Option TI → Bool | some ti => Nat.ble ti.wd 4 | none => false
 optI (g : Operand → V) : Option Operand → Option (Option Int)
  | none => some none
  | some x => match g x with | .int _ n => some (some n) | _ => none
structure St where
 t : List (Nat × V)
 O : List (Nat × Blk)
 nx : Nat
def St.get (s : St) : Operand → V := opV (qj s.t)
def St.put (s : St) (n : Nat) (dst : Option Nat) (v : V) (U : List (Nat × Blk)) (nx : Nat) (K : St → Option R) : Option R :=
 match dst with
 | none => K { t := s.t, O := U ++ s.O, nx }
 | some d => bc (Nat.blt d n) (K { t := (d, v) :: s.t, O := U ++ s.O, nx }) (none)
def qbJ (s : St) (d : Nat) (yes no : St → Option R) : Option R :=
 match qj s.t d with
 | .tt => yes s
 | .ff => no s
 | .bool b => if b = true then yes { s with t := (d, .tt) :: s.t } else no { s with t := (d, .ff) :: s.t }
 | .cnd p h => @ite _ p h (yes { s with t := (d, .tt) :: s.t }) (no { s with t := (d, .ff) :: s.t })
 | _ => none
def qbK (C : Cfg) (dr : Bool) (o : Oper) (s : St) (K : St → Option R) : Option R :=
 ql C s.get (qc s.O) s.nx dr o fun v U n => s.put C.nt o.dst v U n K
def qbh (C : Cfg) (o : Oper) (s : St) (K : St → Option R) : Option R := s.put C.nt o.dst .und [] s.nx K
def qcn : V → Bool | .und => true | _ => false
def qaz (C : Cfg) (ops : Array Oper) : List Oper → St → (St → Option R) → Option R
  | [], s, K => K s
  | o :: rest, s, K =>
    match o.guard with
    | none => qbK C false o s fun s => qaz C ops rest s K
    | some (j, b) => match (ops[j]?).bind (·.dst) with
      | none => none
      | some d => bc (Nat.blt d C.nt) (bc (qcn (qj s.t d)) (qbh C o s fun s => qaz C ops rest s K) (qbJ s d (fun s => bc (b) (qbK C false o s fun s => qaz C ops rest s K) (qbh C o s fun s => qaz C ops rest s K))
            (fun s => bc (b) (qbh C o s fun s => qaz C ops rest s K) (qbK C false o s fun s => qaz C ops rest s K)))) (none)
inductive Ex where
 | normal | exit (id : Nat) | ret
def qcl : List Cut → Nat → Nat → Option (Nat × Cut)
 | [], _, _ => none
 | c :: r, i, p => bc (Nat.beq c.code p) (some (i, c)) (qcl r (i + 1) p)
def qbE (s : St) (kd : Kd) (v : V) : Option V :=
 (qbA (qc s.O) (match kd with | .is k => some k | _ => none) kd v).ob fun x => bc (qF kd x) (some x) (none)
def qaw (s : St) : List Kd → List V → Option (List V)
 | [], [] => some []
 | k :: ks, v :: vs => (qbE s k v).ob fun x => (qaw s ks vs).ob fun l => some (x :: l)
 | _, _ => none
structure At where
 ls : List V
 pn : List Nat
 ns : List Nat
def qdg (s : St) (p : List Kd) (k : IntKind) (q : List Kd) (l : List V) : Option At :=
 match l.drop p.length with
 | .own id :: r => (match qc s.O id with
  | .ints k' x true => bc (qv k k') ((qaw s p (l.take p.length)).ob fun a => (qaw s q r).ob fun b => some ⟨a ++ .ints k x :: b, [id], qQ (l.take p.length) ++ qQ r⟩) (none)
  | _ => none)
 | .nils _ :: r => (qaw s p (l.take p.length)).ob fun a => (qaw s q r).ob fun b => some ⟨a ++ .ints k [] :: b, [], qQ (l.take p.length) ++ qQ r⟩
 | _ => none
def qah (s : St) (t : Nat → V) : Kx → V → Option At
 | .lf k, v => (qbE s k v).ob fun x => some ⟨[x], [], qai v⟩
 | .ag ks, v => (match v with | .agg l => (qaw s ks l).ob fun x => some ⟨x, [], qQ l⟩ | _ => none)
 | .ip ks, v => (match v with | .iptr l => bc (qd ks l) (some ⟨l, [], []⟩) (none) | _ => none)
 | .cl f kss, v => (match v with | .clo f' l => bc (Nat.beq f f') ((qcC kss l).ob fun x => some ⟨x, [], []⟩) (none) | _ => none)
 | .bx ks, v => (match v with
  | .ptr id 0 => (match qc s.O id with | .cells l => (qaw s ks l).ob fun x => some ⟨x, [id], qQ l⟩ | _ => none)
  | _ => none)
 | .ar k, v => (match v with
  | .ptr id 0 => (match qc s.O id with | .ints k' l false => bc (qv k k') (some ⟨[.ints k l], [id], []⟩) none | _ => none)
  | _ => none)
 | .it, v => (match v with
  | .ptr id 0 => (match qc s.O id with | .iter x p => some ⟨[.str x, .int .i64 p], [id], []⟩ | _ => none)
  | _ => none)
 | .al u, v => (match v, t u with
  | .own id, .own id' => bc (Nat.beq id id') (some ⟨[], [], []⟩) (none)
  | .ptr id 0, .ptr id' 0 => bc (Nat.beq id id') (some ⟨[], [], []⟩) (none)
  | _, _ => none)
 | .ow k, v => (match v with
  | .own id => (match qc s.O id with | .ints k' l true => bc (qv k k') (some ⟨[.ints k l], [id], []⟩) (none) | _ => none)
  | .osl id none (some h) => (match qc s.O id with | .ints k' l true => bc (qv k k') (some ⟨[.ints k (l.take h.toNat)], [id], []⟩) (none) | _ => none)
  | .nils _ => some ⟨[.ints k []], [], []⟩
  | _ => none)
 | .bo k, v => (match v with
  | .own 0 => (match qc s.O 0 with | .ints k' l false => bc (qv k k') (some ⟨[.ints k l], [0], []⟩) (none) | _ => none)
  | _ => none)
 | .bb ks, v => (match v with
  | .ptr 0 0 => (match qc s.O 0 with | .cells l => (qaw s ks l).ob fun x => some ⟨x, [0], qQ l⟩ | _ => none)
  | _ => none)
 | .ao p k q, v => (match v with | .agg l => qdg s p k q l | _ => none)
 | .bxo p k q, v => (match v with
  | .ptr id 0 => (match qc s.O id with | .cells l => (qdg s p k q l).ob fun a => some ⟨a.ls, id :: a.pn, a.ns⟩ | _ => none)
  | _ => none)
def qc7 (s : St) : List (Nat × Kx) → Option At
 | [] => some ⟨[], [], []⟩
 | (t, k) :: r => (qah s (qj s.t) k (qj s.t t)).ob fun q => (qc7 s r).ob fun q' => some ⟨q.ls ++ q'.ls, q.pn ++ q'.pn, q.ns ++ q'.ns⟩
def qdf : List Nat → Bool
 | [] => true
 | x :: r => !(r.any (Nat.beq x)) && qdf r
def qct (pn ns : List Nat) : Bool := qdf pn && ns.all fun x => !(pn.any (Nat.beq x))
def qdW (s : St) (vs : List (Nat × Kx)) : Option (List V) :=
 (qc7 s vs).ob fun q => bc (qct q.pn q.ns) (some q.ls) (none)
def qe : List (Nat × Kx) → St → List V → St
 | (t, .lf _) :: r, s, v :: l => qe r { s with t := (t, v) :: s.t } l
 | (t, .ag ks) :: r, s, l => qe r { s with t := (t, .agg (l.take ks.length)) :: s.t } (l.drop ks.length)
 | (t, .ip ks) :: r, s, l => qe r { s with t := (t, .iptr (l.take ks.length)) :: s.t } (l.drop ks.length)
 | (t, .cl f kss) :: r, s, l => qe r { s with t := (t, .clo f (qcz kss l)) :: s.t } (l.drop kss.flatten.length)
 | (t, .bx ks) :: r, s, l => qe r { t := (t, .ptr s.nx 0) :: s.t, O := (s.nx, .cells (l.take ks.length)) :: s.O, nx := s.nx + 1 } (l.drop ks.length)
 | (t, .bb ks) :: r, s, l => qe r { t := (t, .ptr s.nx 0) :: s.t, O := (s.nx, .cells (l.take ks.length)) :: s.O, nx := s.nx + 1 } (l.drop ks.length)
 | (t, .ow k) :: r, s, .ints _ x :: l => qe r { t := (t, .own s.nx) :: s.t, O := (s.nx, .ints k x true) :: s.O, nx := s.nx + 1 } l
 | (t, .bo k) :: r, s, .ints _ x :: l => qe r { t := (t, .own s.nx) :: s.t, O := (s.nx, .ints k x false) :: s.O, nx := s.nx + 1 } l
 | (t, .it) :: r, s, .str x :: .int _ p :: l => qe r { t := (t, .ptr s.nx 0) :: s.t, O := (s.nx, .iter x p) :: s.O, nx := s.nx + 1 } l
 | (t, .ar k) :: r, s, .ints _ x :: l => qe r { t := (t, .ptr s.nx 0) :: s.t, O := (s.nx, .ints k x false) :: s.O, nx := s.nx + 1 } l
 | (t, .al u) :: r, s, l => qe r { s with t := (t, qj s.t u) :: s.t } l
 | (t, .ao p k q) :: r, s, l => (match l.drop p.length with
  | .ints _ x :: m => qe r { t := (t, .agg (l.take p.length ++ .own s.nx :: m.take q.length)) :: s.t, O := (s.nx, .ints k x true) :: s.O, nx := s.nx + 1 } (m.drop q.length)
  | _ => s)
 | (t, .bxo p k q) :: r, s, l => (match l.drop p.length with
  | .ints _ x :: m => qe r { t := (t, .ptr (s.nx + 1) 0) :: s.t, O := (s.nx + 1, .cells (l.take p.length ++ .own s.nx :: m.take q.length)) :: (s.nx, .ints k x true) :: s.O, nx := s.nx + 2 } (m.drop q.length)
  | _ => s)
 | _, s, _ => s
def qfF : Op → Bool | .store .. => true | _ => false
def qhl : Op → Option Nat
 | .store .. => some 2
 | .move _ => some 0 | .assign _ => some 0 | .binOp .. => some 0 | .unOp .. => some 0 | .convert .. => some 1 | .pick .. => some 0 | .extract .. => some 0
 | .fieldAddr .. => some 0 | .field .. => some 0
 | .call { callee := .builtin b, .. } => (match b with | .len => some 1 | .max => some 0 | .min => some 0 | _ => none)
 | .call { callee := .value _, .. } => some 1
 | .load .. => some 1 | .alloc _ => some 0 | .box .. => some 0 | .makeFunc .. => some 0 | .build .. => some 0 | .buildSlice .. => some 1 | .makeSlice .. => some 0 | .slice .. => some 1
 | .indexAddr .. => some 1 | .index .. => some 0
 | _ => none
def qfz : Op → Bool | .call { callee := .value _, .. } => true | _ => false
def qcv (l : List Operand) : List Nat := l.filterMap fun | .tmp t => some t | _ => none
def qbr (ops : List Oper) (o : Oper) : List Nat :=
 qcv o.op.operands.toList ++ (match o.guard with | some (j, _) => ((ops[j]?).bind (·.dst)).toList | none => [])
def qcr (acc : List Nat) (l : List Edge) : Nat :=
 l.foldl (fun s e => bc (Region.binds .any e) (s ||| 2 ^ e.on ||| (acc[e.on]?).getD 0) s) 0
def qa5 : List Oper → List Nat → List Nat
 | [], acc => acc
 | o :: r, acc => qa5 r (acc ++ [qcr acc o.after.toList])
def qcT (l m : List Nat) : Bool := l.all fun x => !(m.any (Nat.beq x))
def qbz (o : Op) : Bool := match qhl o with | some 0 => true | _ => false
def qG : V → List Nat
 | .own id => [id] | .osl id _ _ => [id] | .optr id _ => [id] | .ptr id _ => [id] | .agg l => qQ l | _ => []
def qd6 : List V → List Nat
 | [] => [] | v :: r => qG v ++ qd6 r
def qbs (g : Operand → V) (o : Oper) : List Nat := qd6 (o.op.operands.toList.map g)
abbrev Log := List (List Nat × List Nat)
def qaU (U : List (Nat × Blk)) : List Nat := U.map (·.1)
def qbI (ops : List Oper) (a b : List Nat × List Nat) (x y : Oper) (fix : Bool) : Bool :=
 (!(x.dst == y.dst) || !x.dst.isSome) &&
 (fix || (!((qbr ops y).any fun t => x.dst == some t) && !((qbr ops x).any fun t => y.dst == some t) &&
  qcT a.2 b.2 && (qbz y.op || qcT a.2 b.1) && (qbz x.op || qcT b.2 a.1)))
def qci (ops : List Oper) (m : Nat) (b : List Nat × List Nat) (y : Oper) : Nat → List Oper → Log → Nat → Bool
 | i, x :: r, a :: L, n + 1 => qbI ops a b x y (m.testBit i) && qci ops m b y (i + 1) r L n
 | _, _, _, 0 => true
 | _, _, _, _ => false
def qcU (ops : List Oper) (L : Log) (ms : List Nat) : Nat → List Oper → Log → Bool
 | j, y :: r, b :: L' => y.after.toList.all (fun e => !Region.binds .any e || Nat.blt e.on j) && qci ops ((ms[j]?).getD 0) b y 0 ops L j && qcU ops L ms (j + 1) r L'
 | _, [], [] => true
 | _, _, _ => false
def qe4 (ops : List Oper) (L : Log) : Bool := qcU ops L (qa5 ops []) 0 ops L
def qdo (C : Cfg) (o : Oper) (s : St) (K : St → List Nat × List Nat → Option R) : Option R :=
 ql C s.get (qc s.O) s.nx true o fun v U n => s.put C.nt o.dst v U n fun s' => K s' (qbs s.get o, qaU U)
def qaQ (C : Cfg) (ops : List Oper) : List Oper → St → Log → (St → Log → Option R) → Option R
 | [], s, L, K => K s L
 | o :: rest, s, L, K =>
  match o.guard with
  | none => qdo C o s fun s' e => qaQ C ops rest s' (L ++ [e]) K
  | some (j, b) => match (ops[j]?).bind (·.dst) with
   | none => none
   | some d => bc (Nat.blt d C.nt)
     (bc (qcn (qj s.t d)) (qbh C o s fun s' => qaQ C ops rest s' (L ++ [([], [])]) K)
      (qbJ s d
       (fun s => bc b (qdo C o s fun s' e => qaQ C ops rest s' (L ++ [e]) K) (qbh C o s fun s' => qaQ C ops rest s' (L ++ [([], [])]) K))
       (fun s => bc b (qbh C o s fun s' => qaQ C ops rest s' (L ++ [([], [])]) K) (qdo C o s fun s' e => qaQ C ops rest s' (L ++ [e]) K))))
     none
def qcw (ops : Array Oper) (s : St) : St :=
 bc (ops.toList.any (fun o => qfF o.op) || !(ops.toList.any fun o => qfz o.op)) (s) ({ s with O := qT (qc s.O) (qQ ((ops.toList.flatMap fun o => qcv o.op.operands.toList).map (qj s.t))) ++ s.O })
abbrev Hd (R : Type) := Nat → List V → Option R
abbrev Kt (R : Type) := Ex → St → Option R
def qcL (H : Hd R) (i : Nat) (vs : List (Nat × Kx)) (s : St) : Option R :=
 match qdW s vs with | some l => H i l | none => none
def qae (C : Cfg) (H : Hd R) (p : Nat) (f : St → Option R) (s : St) : Option R :=
 match qcl C.cuts 0 p with | some (i, t) => qcL H i t.vs s | none => f s
def qdt (f : St → Option R) (K : Kt R) (e : Ex) (s : St) : Option R := (fun _ : Nat => match e with | .normal => f s | e => K e s) qcA
def qe0 (id : Nat) (K : Kt R) (e : Ex) (s : St) : Option R := (fun _ : Nat => match e with | .exit id' => bc (Nat.beq id' id) (K .normal s) (K e s) | e => K e s) qcA
def evN (C : Cfg) (H : Hd R) : Code → Nat → Kt R → St → Option R
 | .skip, _, K, s => K .normal s
 | .label _, _, K, s => K .normal s
 | .region _ ops draw, _, K, s => bc draw (qaQ C ops.toList ops.toList (qcw ops s) [] fun s' L => bc (qe4 ops.toList L) (K .normal s') none) (qaz C ops ops.toList s (K .normal))
 | .seq a b, p, K, s => qae C H (2 * p) (evN C H a (2 * p) (qdt (qae C H (2 * p + 1) (evN C H b (2 * p + 1) K)) K)) s
 | .cond c a b, p, K, s => match c with
  | .tmp d => qbJ s d (qae C H (2 * p) (evN C H a (2 * p) K)) (qae C H (2 * p + 1) (evN C H b (2 * p + 1) K))
  | .const (.bool true) => qae C H (2 * p) (evN C H a (2 * p) K) s
  | .const (.bool false) => qae C H (2 * p + 1) (evN C H b (2 * p + 1) K) s
  | _ => none
 | .block id a, p, K, s => qae C H (2 * p) (evN C H a (2 * p) (qe0 id K)) s
 | .loop _, p, _, s => qae C H p (fun _ => none) s
 | .scope a, p, K, s => qae C H (2 * p) (evN C H a (2 * p) K) s
 | .exit id, _, K, s => K (.exit id) s
 | .ret, _, K, s => K .ret s
 | _, _, _, _ => none
def evC (C : Cfg) (H : Hd R) (c : Code) (p : Nat) (K : Kt R) (s : St) : Option R := qae C H p (evN C H c p K) s
def qeB (C : Cfg) (s : St) : ResultVar → Option V
 | .tmp t => some (qj s.t t)
 | .cell a ty => match qj s.t a with
  | .ptr id off => (C.T ty).ob fun ti => qc9 (qc s.O) ti (.ptr id off)
  | _ => none
def qb1 (C : Cfg) (s : St) : List ResultVar → Option (List V)
 | [] => some []
 | r :: rs => (qeB C s r).ob fun v => (qb1 C s rs).ob fun l => some (v :: l)
def qco (s : St) : List Kx → List V → Option At
 | [], [] => some ⟨[], [], []⟩
 | k :: ks, v :: vs => (qah s (fun _ => .dead) k v).ob fun q => (qco s ks vs).ob fun q' => some ⟨q.ls ++ q'.ls, q.pn ++ q'.pn, q.ns ++ q'.ns⟩
 | _, _ => none
def qbY (s : St) : List Kx → Option At
 | [] => some ⟨[], [], []⟩
 | .bo k :: _ => (match qc s.O 0 with | .ints k' l false => bc (qv k k') (some ⟨[.ints k l], [0], []⟩) (none) | _ => none)
 | .bb ks :: _ => (match qc s.O 0 with | .cells l => (qaw s ks l).ob fun x => some ⟨x, [0], qQ l⟩ | _ => none)
 | _ :: r => qbY s r
def qdm (C : Cfg) (S : Sig) (rs : List ResultVar) (e : Ex) (s : St) : Option S.R :=
 match e with
 | .exit _ => none
 | _ => (qb1 C s rs).ob fun vs => (qco s S.rs vs).ob fun q => (qbY s S.ps).ob fun w =>
  bc (qct (w.pn ++ q.pn) (w.ns ++ q.ns)) (app (qo S.rs ++ S.wb) S.mkR (q.ls ++ w.ls)) (none)
def qS : Nat → List Kx → List (Nat × Kx)
 | _, [] => []
 | n, k :: r => (n, k) :: qS (n + 1) r
def q8 : St := ⟨[], [], 0⟩
def qeE (C : Cfg) (S : Sig) (c : Code) (rs : List ResultVar) (H : Hd S.R) (ls : List V) : Option S.R :=
 evN C H c 1 (qdm C S rs) (qe (qS 0 S.ps) q8 ls)
def qay {R β : Type} (C : Cfg) (H : Hd R) : Code → List Bool → Nat → Kt R → (Code → Nat → Kt R → Option β) → Option β
 | c, [], p, K, F => F c p K
 | .seq a b, false :: ds, p, K, F => qay C H a ds (2 * p) (qdt (evC C H b (2 * p + 1) K) K) F
 | .seq _ b, true :: ds, p, K, F => qay C H b ds (2 * p + 1) K F
 | .cond _ a _, false :: ds, p, K, F => qay C H a ds (2 * p) K F
 | .cond _ _ b, true :: ds, p, K, F => qay C H b ds (2 * p + 1) K F
 | .block id a, false :: ds, p, K, F => qay C H a ds (2 * p) (qe0 id K) F
 | .loop a, false :: ds, p, K, F => qay C H a ds (2 * p) (qdt (qae C H p fun _ => none) K) F
 | .scope a, false :: ds, p, K, F => qay C H a ds (2 * p) K F
 | _, _, _, _, _ => none
def qdn (C : Cfg) (S : Sig) (c : Code) (rs : List ResultVar) (H : Hd S.R) (t : Cut) (ls : List V) : Option S.R :=
 qay C H c t.dirs 1 (qdm C S rs) fun c p K =>
  match c with
  | .loop a => evC C H a (2 * p) (qdt (qae C H p fun _ => none) K) (qe t.vs q8 ls)
  | c => evN C H c p K (qe t.vs q8 ls)
def qD : List Bool → Nat → Nat
 | [], n => n | false :: r, n => qD r (2 * n) | true :: r, n => qD r (2 * n + 1)
structure qaI (R : Type) : Type 1 where
 vs : List (Nat × Kx)
 f : Fn (qo (vs.map (·.2))) (Option R)
def qaS {R : Type} : List (qaI R) → Hd R
 | [], _, _ => none
 | c :: _, 0, ls => app (qo (c.vs.map (·.2))) c.f ls
 | _ :: r, i + 1, ls => qaS r i ls
end
def qek : List (Nat × TI) → Nat → Option TI
 | [], _ => none
 | (j, v) :: r, i => bif Nat.beq j i then some v else qek r i
def qdb : List (Nat × List Fun) → Nat → List Fun
 | [], _ => []
 | (j, v) :: r, i => bif Nat.beq j i then v else qdb r i
def qdS (f : Func) : Code := f.body.getD .skip
def qiJ (f : Func) : List ResultVar := f.results.toList
abbrev Mem := Nat → Nat → Option Value
structure Pl where
 b : Nat
 s : Nat
 c : Nat
 len : Nat
 cap : Nat
 nl : Bool
def Pl.val (p : Pl) : Value := if p.nl = true then .slice none 0 0 else .slice (some ⟨p.b, p.s, none⟩) p.len p.cap
def qdG (M : Mem) (w : World) : Prop := ∀ b o v, M b o = some v → w.cell? ⟨b, o, none⟩ = some v
def Ext (M M' : Mem) : Prop := ∀ b o v, M b o = some v → M' b o = some v
def inr (k : IntKind) (n : Int) : Prop := qbg k = false → 0 ≤ n
def qbm (M : Mem) (k : IntKind) (l : List Int) (v : Value) : Prop :=
 (∀ x ∈ l, inr k x) ∧ ((v = .slice none 0 0 ∧ l = []) ∨
  ∃ b o cap, v = .slice (some ⟨b, o, none⟩) l.length cap ∧ l.length ≤ cap ∧ ∀ (i : Nat) x, l[i]? = some x → M b (o + i) = some (.int k x))
def R0 (M : Mem) (v : Value) : V → Prop
 | .int k n => v = .int k n ∧ inr k n
 | .bool b => v = .bool b
 | .str s => v = .string s
 | .ints k l => qbm M k l v
 | _ => False
def qb8 (M : Mem) (ks : List LK) (l : List (Tp ks)) (v : Value) : Prop :=
 (v = .slice none 0 0 ∧ l = []) ∨
  ∃ b o cap, v = .slice (some ⟨b, o, none⟩) l.length cap ∧ l.length ≤ cap ∧
   ∀ (i : Nat) x, l[i]? = some x → ∀ (j : Nat) y, (tpV ks x)[j]? = some y → ∃ u, M b (o + i * ks.length + j) = some u ∧ R0 M u y
abbrev Plc := Nat → Option Pl
def Osl (p : Pl) (lo hi : Option Int) (v : Value) : Prop :=
 ∃ a h : Nat, a = (lo.elim 0 Int.toNat) ∧ h = (hi.elim p.len Int.toNat) ∧ a ≤ h ∧ h ≤ p.len ∧
  ((p.nl = true ∧ v = .slice none 0 0) ∨ (p.nl = false ∧ ∃ s' c', v = .slice (some ⟨p.b, s', none⟩) (h - a) c' ∧ h - a ≤ c' ∧ (lo = none → c' = p.cap) ∧ (0 < h - a → s' = p.s + a) ∧ (lo = none → s' = p.s)))
def RI (M : Mem) (v : Value) : V → Prop
 | .iptr l => ∃ b o, v = .pointer (some ⟨b, o, none⟩) ∧ ∀ (j : Nat) x, l[j]? = some x → ∃ u, M b (o + j) = some u ∧ R0 M u x
 | _ => False
def RL (M : Mem) (φ : Plc) (v : Value) : V → Prop
 | .int k n => v = .int k n ∧ inr k n
 | .tt => v = .bool true
 | .ff => v = .bool false
 | .bool b => v = .bool b
 | .cnd p h => v = .bool (@decide p h)
 | .str s => v = .string s
 | .ints k l => qbm M k l v
 | .rows ks l => qb8 M ks l v
 | .own id => ∃ p, φ id = some p ∧ v = p.val
 | .osl id lo hi => ∃ p, φ id = some p ∧ Osl p lo hi v
 | .optr id i => ∃ p, φ id = some p ∧ p.nl = false ∧ 0 ≤ i ∧ i.toNat < p.len ∧ v = .pointer (some ⟨p.b, p.s + i.toNat, none⟩)
 | .ptr id off => ∃ p, φ id = some p ∧ v = .pointer (some ⟨p.b, p.s + off, none⟩)
 | .iptr l => ∃ b o, v = .pointer (some ⟨b, o, none⟩) ∧ ∀ (j : Nat) x, l[j]? = some x → ∃ u, M b (o + j) = some u ∧ R0 M u x
 | .nils _ => v = .slice none 0 0
 | .nilp => v = .pointer none
 | .fn f => v = .func (.func f) #[] #[]
 | .glob g => v = .pointer (some ⟨g, 0, none⟩)
 | .clo f l => ∃ cs : Array Value, v = .func (.func f) #[] cs ∧ cs.size = l.length ∧ ∀ (j : Nat) y, l[j]? = some y → ∃ u, cs[j]? = some u ∧ RI M u y
 | .nili => v = .nilIface
 | .und => v = undef
 | .dead => True
 | .agg _ => False
 | .tup _ => False
def qaT : V → Bool | .agg _ => true | .tup _ => true | _ => false
def RA (M : Mem) (φ : Plc) (v : Value) (x : V) : Prop :=
 match x with
 | .agg l => ∃ a : Array Value, v = .agg a ∧ a.size = l.length ∧ ∀ (j : Nat) y, l[j]? = some y → ∃ u, a[j]? = some u ∧ RL M φ u y
 | x => RL M φ v x
def RV (M : Mem) (φ : Plc) (v : Value) (x : V) : Prop :=
 match x with
 | .tup l => ∃ a : Array Value, v = .tuple a ∧ a.size = l.length ∧ ∀ (j : Nat) y, l[j]? = some y → ∃ u, a[j]? = some u ∧ RA M φ u y
 | x => RA M φ v x
def qbD : V → Bool | .tup _ => true | _ => false
theorem qbP {M : Mem} {φ : Plc} {v : Value} {x : V} (h : qaT x = false) : RA M φ v x = RL M φ v x := by cases x <;> first | rfl | cases h
theorem qb9 {M : Mem} {φ : Plc} {v : Value} {x : V} (h : qbD x = false) : RV M φ v x = RA M φ v x := by cases x <;> first | rfl | cases h
theorem qeQ {M : Mem} {φ : Plc} {v : Value} {x : V} (h : qaT x = false) : RV M φ v x = RL M φ v x := by cases x <;> first | rfl | cases h
def qr (φ φ' : Plc) : Prop := ∀ id p, φ id = some p → φ' id = some p
theorem Ext.refl (M : Mem) : Ext M M := fun _ _ _ h => h
theorem Ext.trans {A B C : Mem} (h : Ext A B) (k : Ext B C) : Ext A C := fun b o v x => k b o v (h b o v x)
theorem qr.refl (φ : Plc) : qr φ φ := fun _ _ h => h
theorem qr.trans {A B C : Plc} (h : qr A B) (k : qr B C) : qr A C := fun i p x => k i p (h i p x)
section mono
variable {M M' : Mem} {φ φ' : Plc} (hM : Ext M M') (hφ : qr φ φ')
include hM in
theorem qbm.mono {k : IntKind} {l : List Int} {v : Value} (h : qbm M k l v) : qbm M' k l v := by
 obtain ⟨h0, h | ⟨b, o, c, h1, h2, h3⟩⟩ := h
 ·exact ⟨h0, .inl h⟩
 ·exact ⟨h0, .inr ⟨b, o, c, h1, h2, fun i x hx => hM _ _ _ (h3 i x hx)⟩⟩
include hM in
theorem R0.mono {v : Value} {x : V} (h : R0 M v x) : R0 M' v x := by
 cases x <;> first | exact h | exact qbm.mono hM h
include hM in
theorem RI.mono {v : Value} {x : V} (h : RI M v x) : RI M' v x := by
 cases x with
 | iptr l => obtain ⟨b, o, e, f⟩ := h; exact ⟨b, o, e, fun j x hx => let ⟨u, a, b⟩ := f j x hx; ⟨u, hM _ _ _ a, b.mono hM⟩⟩
 | _ => exact h
include hM in
theorem qb8.mono {ks : List LK} {l : List (Tp ks)} {v : Value} (h : qb8 M ks l v) : qb8 M' ks l v := by
 obtain h | ⟨b, o, c, h1, h2, h3⟩ := h
 ·exact .inl h
 ·exact .inr ⟨b, o, c, h1, h2, fun i x hx j y hy => let ⟨u, a, b⟩ := h3 i x hx j y hy; ⟨u, hM _ _ _ a, b.mono hM⟩⟩
include hM hφ in
theorem RL.mono {v : Value} {x : V} (h : RL M φ v x) : RL M' φ' v x := by
 cases x with
 | ints k l => exact qbm.mono hM h
 | rows ks l => exact qb8.mono hM h
 | own id => obtain ⟨p, a, b⟩ := h; exact ⟨p, hφ _ _ a, b⟩
 | osl id lo hi => obtain ⟨p, a, b⟩ := h; exact ⟨p, hφ _ _ a, b⟩
 | optr id i => obtain ⟨p, a, b⟩ := h; exact ⟨p, hφ _ _ a, b⟩
 | ptr id off => obtain ⟨p, a, b⟩ := h; exact ⟨p, hφ _ _ a, b⟩
 | iptr l => obtain ⟨b, o, e, f⟩ := h; exact ⟨b, o, e, fun j x hx => let ⟨u, a, b⟩ := f j x hx; ⟨u, hM _ _ _ a, b.mono hM⟩⟩
 | clo f l => obtain ⟨cs, e, s, g⟩ := h; exact ⟨cs, e, s, fun j y hy => let ⟨u, a, b⟩ := g j y hy; ⟨u, a, b.mono hM⟩⟩
 | _ => exact h
include hM hφ in
theorem RA.mono {v : Value} {x : V} (h : RA M φ v x) : RA M' φ' v x := by
 cases hx : qaT x with
 | false => rw [qbP hx] at h ⊢; exact h.mono hM hφ
 | true =>
  cases x with
  | agg l => obtain ⟨a, e, s, f⟩ := h; exact ⟨a, e, s, fun j y hy => let ⟨u, p, q⟩ := f j y hy; ⟨u, p, q.mono hM hφ⟩⟩
  | tup l => exact h.elim
  | _ => cases hx
include hM hφ in
theorem RV.mono {v : Value} {x : V} (h : RV M φ v x) : RV M' φ' v x := by
 cases hx : qbD x with
 | false => rw [qb9 hx] at h ⊢; exact h.mono hM hφ
 | true =>
  cases x with
  | tup l => obtain ⟨a, e, s, f⟩ := h; exact ⟨a, e, s, fun j y hy => let ⟨u, p, q⟩ := f j y hy; ⟨u, p, q.mono hM hφ⟩⟩
  | _ => cases hx
end mono
theorem RL.rv {M : Mem} {φ : Plc} {v : Value} {x : V} (h : RL M φ v x) : RV M φ v x := by
 cases x <;> first | exact h | exact h.elim
theorem RA.rv {M : Mem} {φ : Plc} {v : Value} {x : V} (h : RA M φ v x) : RV M φ v x := by
 cases x <;> first | exact h | exact h.elim
theorem R0.rl {M : Mem} {φ : Plc} {v : Value} {x : V} (h : R0 M v x) : RL M φ v x := by
 cases x <;> first | exact h | exact h.elim
def qs : Blk → Bool | .cells _ => true | .ints _ _ _ => true | .iter _ _ => true | _ => false
def qw : Blk → Bool | .iter _ _ => true | _ => false
def Occ (it : Bool) (w : World) (b o : Nat) : Prop :=
 match it with | false => ∃ u, w.cell? ⟨b, o, none⟩ = some u | true => o = 0 ∧ ∃ s pos, w.heap[b]? = some (.stringIter s pos)
def RB (M : Mem) (φ : Plc) (w : World) (p : Pl) : Blk → Prop
 | .cells l => p.nl = false ∧ p.c = l.length ∧ ∀ (j : Nat) x, l[j]? = some x → ∃ u, w.cell? ⟨p.b, p.s + j, none⟩ = some u ∧ RL M φ u x
 | .ints k l t => p.len = l.length ∧ p.len ≤ p.cap ∧ (p.nl = true → p.c = 0 ∧ p.cap = 0) ∧ (p.nl = false → t = true → p.cap = p.c) ∧ (t = false → p.c = l.length) ∧ l.length ≤ p.c ∧
   ∀ (j : Nat) x, l[j]? = some x → w.cell? ⟨p.b, p.s + j, none⟩ = some (.int k x) ∧ inr k x
 | .ice k l => p.len = l.length ∧ p.len ≤ p.cap ∧ (p.nl = true → p.cap = 0) ∧ ∀ (j : Nat) x, l[j]? = some x → M p.b (p.s + j) = some (.int k x) ∧ inr k x
 | .iter s pos => p.s = 0 ∧ p.c = 1 ∧ 0 ≤ pos ∧ w.heap[p.b]? = some (.stringIter s pos.toNat)
 | .gone => True
def qb6 (it : Bool) (M : Mem) (w : World) (p : Pl) : Prop :=
 ∀ j, j < p.c → Occ it w p.b (p.s + j) ∧ w.frozen? ⟨p.b, p.s + j, none⟩ = false ∧ M p.b (p.s + j) = none
structure Rel (M : Mem) (φ : Plc) (B : Nat → Blk) (w : World) : Prop where
 holds : qdG M w
 blk : ∀ id p, φ id = some p → RB M φ w p (B id)
 own : ∀ id p, φ id = some p → qs (B id) = true → qb6 (qw (B id)) M w p
 dis : ∀ id id' p p', id ≠ id' → φ id = some p → φ id' = some p' → qs (B id) = true → qs (B id') = true →
  ∀ j j', j < p.c → j' < p'.c → p.b = p'.b → p.s + j ≠ p'.s + j'
def qK (φ : Plc) (B : Nat → Blk) (b o : Nat) : Prop := ∃ id p j, φ id = some p ∧ qs (B id) = true ∧ j < p.c ∧ b = p.b ∧ o = p.s + j
structure Kp (X : Nat → Nat → Prop) (w w' : World) : Prop where
 os : w'.os = w.os
 tape : w'.tape = w.tape
 output : w'.output = w.output
 size : w.heap.size ≤ w'.heap.size
 block : ∀ k, k < w.heap.size → (∀ o, ¬ X k o) → w'.heap[k]? = w.heap[k]?
 cell : ∀ b o v, w.cell? ⟨b, o, none⟩ = some v → ¬ X b o → w'.cell? ⟨b, o, none⟩ = some v
 froz : ∀ b o v, w.cell? ⟨b, o, none⟩ = some v → ¬ X b o → w'.frozen? ⟨b, o, none⟩ = w.frozen? ⟨b, o, none⟩
 iter : ∀ b s p, w.heap[b]? = some (.stringIter s p) → ¬ X b 0 → w'.heap[b]? = some (.stringIter s p)
theorem qbd {w : World} {b o : Nat} {v : Value} (h : w.cell? ⟨b, o, none⟩ = some v) : b < w.heap.size := World.block_lt_of_cell? _ _ h
theorem Kp.refl (X : Nat → Nat → Prop) (w : World) : Kp X w w := ⟨rfl, rfl, rfl, Nat.le_refl _, fun _ _ _ => rfl, fun _ _ _ h _ => h, fun _ _ _ _ _ => rfl, fun _ _ _ h _ => h⟩
theorem qdc {w : World} {b : Nat} {o : Obj} (h : w.heap[b]? = some o) : b < w.heap.size := (Array.getElem?_eq_some_iff.1 h).1
theorem Occ.lt {it : Bool} {w : World} {b o : Nat} (h : Occ it w b o) : b < w.heap.size := by
 cases it
 ·obtain ⟨u, h⟩ := h; exact qbd h
 ·obtain ⟨_, _, _, h⟩ := h; exact qdc h
theorem qed {w : World} {b o : Nat} {s : ByteArray} {p : Nat} (h : w.heap[b]? = some (.stringIter s p)) : w.frozen? ⟨b, o, none⟩ = false := by simp [World.frozen?, h]
theorem qiE {w : World} {b o : Nat} {s : ByteArray} {p : Nat} (h : w.heap[b]? = some (.stringIter s p)) : w.cell? ⟨b, o, none⟩ = none := by simp [World.cell?, h]
theorem Kp.occ {X : Nat → Nat → Prop} {w w' : World} (hk : Kp X w w') {it : Bool} {b o : Nat} (h : Occ it w b o) (hx : ¬ X b o) : Occ it w' b o := by
 cases it
 ·obtain ⟨u, h⟩ := h; exact ⟨u, hk.cell _ _ _ h hx⟩
 ·obtain ⟨rfl, s, p, h⟩ := h; exact ⟨rfl, s, p, hk.iter _ _ _ h hx⟩
theorem Kp.frz {X : Nat → Nat → Prop} {w w' : World} (hk : Kp X w w') {it : Bool} {b o : Nat} (h : Occ it w b o) (hx : ¬ X b o) : w'.frozen? ⟨b, o, none⟩ = w.frozen? ⟨b, o, none⟩ := by
 cases it
 ·obtain ⟨u, h⟩ := h; exact hk.froz _ _ _ h hx
 ·obtain ⟨rfl, s, p, h⟩ := h; rw [qed h, qed (hk.iter _ _ _ h hx)]
theorem Kp.trans {X Y : Nat → Nat → Prop} {a b c : World} (h : Kp X a b) (k : Kp Y b c) (hY : ∀ m o, Y m o → X m o ∨ a.heap.size ≤ m) : Kp X a c := by
 have no : ∀ m o, m < a.heap.size → ¬ X m o → ¬ Y m o := fun m o hm hx hy => by
  rcases hY m o hy with h | h
  ·exact hx h
  ·omega
 refine ⟨k.os.trans h.os, k.tape.trans h.tape, k.output.trans h.output, Nat.le_trans h.size k.size, ?_, ?_, ?_, ?_⟩
 ·intro m hm hx
  rw [k.block m (Nat.lt_of_lt_of_le hm h.size) (fun o => no m o hm (hx o)), h.block m hm hx]
 ·intro m o v hv hx
  exact k.cell m o v (h.cell m o v hv hx) (no m o (qbd hv) hx)
 ·intro m o v hv hx
  rw [k.froz m o v (h.cell m o v hv hx) (no m o (qbd hv) hx), h.froz m o v hv hx]
 ·intro m s p hv hx
  exact k.iter m s p (h.iter m s p hv hx) (no m 0 (qdc hv) hx)
structure Stp (M : Mem) (φ : Plc) (B : Nat → Blk) (w : World) (M' : Mem) (φ' : Plc) (B' : Nat → Blk) (w' : World) : Prop where
 mem : Ext M M'
 kept : Kp (qK φ B) w w'
 own : ∀ b o, qK φ' B' b o → qK φ B b o ∨ w.heap.size ≤ b
 new : ∀ b o v, M' b o = some v → M b o = some v ∨ qK φ B b o ∨ w.heap.size ≤ b
theorem Stp.refl (M : Mem) (φ : Plc) (B : Nat → Blk) (w : World) : Stp M φ B w M φ B w :=
 ⟨Ext.refl M, Kp.refl _ w, fun _ _ h => .inl h, fun _ _ _ h => .inl h⟩
theorem Stp.trans {M1 M2 M3 : Mem} {φ1 φ2 φ3 : Plc} {B1 B2 B3 : Nat → Blk} {w1 w2 w3 : World} (h : Stp M1 φ1 B1 w1 M2 φ2 B2 w2) (k : Stp M2 φ2 B2 w2 M3 φ3 B3 w3) :
  Stp M1 φ1 B1 w1 M3 φ3 B3 w3 := by
 have hs := h.kept.size
 refine ⟨h.mem.trans k.mem, h.kept.trans k.kept h.own, ?_, ?_⟩
 ·intro b o x
  rcases k.own b o x with x | x
  ·exact h.own b o x
  ·exact .inr (by omega)
 ·intro b o v x
  rcases k.new b o v x with x | x | x
  ·exact h.new b o v x
  ·exact .inr (h.own b o x)
  ·exact .inr (.inr (by omega))
def zOk : Z → Value → Bool
 | .int k, .int k' n => qv k k' && decide (n = 0)
 | .bool, .bool b => !b
 | .str, .string s => decide (s = ⟨#[]⟩)
 | .slice _, .slice none n c => Nat.beq n 0 && Nat.beq c 0
 | .ptr, .pointer none => true
 | _, _ => false
def qbN : List Z → List Value → Bool
 | [], [] => true
 | z :: zs, v :: vs => zOk z v && qbN zs vs
 | _, _ => false
def dOk : TD → TypeDesc → Bool
 | .int k, .int k' => qv k k'
 | .bool, .bool => true
 | .str, .string => true
 | .slice e, .slice e' => Nat.beq e e'
 | .struct fs, .struct gs => fsOk fs gs.toList
 | .arr n e, .array n' e' => Nat.beq n n' && Nat.beq e e'
 | .ptr e, .pointer e' => Nat.beq e e'
 | _, _ => false
where fsOk : List (Nat × Nat) → List Field → Bool
 | [], [] => true
 | (o, t) :: r, f :: s => Nat.beq o f.offset && Nat.beq t f.type && fsOk r s
 | _, _ => false
def qcX (P : Program) (t : Nat) : Bool := !P.stoodInHeld t && !P.eqGuardType P.depth t && (P.fieldsOf t).toList.all (·.name != "_")
def qdu (P : Program) (t : Nat) (ti : TI) : Bool :=
 match P.info? t, P.underlying t with
 | some i, some d => Nat.beq i.size ti.sz && Nat.beq i.bytes ti.wd && dOk ti.d d && (match i.zero with | some z => qbN ti.zs z.cells.toList && Nat.beq z.cells.size i.size | none => false) &&
   (match ti.d with | .int k => decide (ti.zs = [.int k]) | .struct fs => (fs.all fun q => (P.info? q.2).isSome) && (!scs ti.zs || qcX P t) | _ => true)
 | _, _ => false
theorem qE {k k' : IntKind} (h : qv k k' = true) : k = k' := by cases k <;> cases k' <;> first | rfl | cases h
theorem qbV (k : IntKind) : qv k k = true := by cases k <;> rfl
theorem qu {a b : Nat} (h : Nat.beq a b = true) : a = b := Nat.eq_of_beq_eq_true h
structure qB (P : Program) (t : Nat) (ti : TI) where
 i : TypeInfo
 d : TypeDesc
 z : Value
 hi : P.info? t = some i
 hd : P.underlying t = some d
 hs : i.size = ti.sz
 hb : i.bytes = ti.wd
 hk : dOk ti.d d = true
 hz : i.zero = some z
 hzs : qbN ti.zs z.cells.toList = true
 hzn : z.cells.size = ti.sz
 hzi : ∀ k, ti.d = .int k → ti.zs = [.int k]
 hfs : ∀ fs, ti.d = .struct fs → ∀ q ∈ fs, (P.info? q.2).isSome = true
 hes : ∀ fs, ti.d = .struct fs → scs ti.zs = true → qcX P t = true
theorem qM {P : Program} {t : Nat} {ti : TI} (h : qdu P t ti = true) : Nonempty (qB P t ti) := by
 unfold qdu at h
 split at h
 ·rename_i i d hi hd
  simp only [Bool.and_eq_true] at h
  obtain ⟨⟨⟨⟨h1, h2⟩, h3⟩, h4⟩, h5⟩ := h
  split at h4
  ·rename_i z hz
   simp only [Bool.and_eq_true] at h4
   exact ⟨⟨i, d, z, hi, hd, qu h1, qu h2, h3, hz, h4.1, (qu h4.2).trans (qu h1), fun k hk => (by rw [hk] at h5; exact of_decide_eq_true h5), fun fs hk => (by rw [hk] at h5; exact List.all_eq_true.1 (Bool.and_eq_true_iff.1 h5).1), fun fs hk hz => (by rw [hk] at h5; have h6 := (Bool.and_eq_true_iff.1 h5).2; rw [hz] at h6; exact h6)⟩⟩
  ·cases h4
 ·cases h
def TOk (P : Program) (T : Nat → Option TI) : Prop := ∀ t ti, T t = some ti → qdu P t ti = true
section
variable {P : Program} {t : Nat} {ti : TI} (I : qB P t ti) (w : World)
include I
theorem qB.run_info : (typeInfo t).run P w = .ok I.i w := by simp [typeInfo, I.hi]
theorem qB.run_und : (underlying t).run P w = .ok I.d w := by simp [underlying, I.hd]
theorem qB.run_size : (sizeOf t).run P w = .ok ti.sz w := by simp [sizeOf, I.run_info, I.hs]
theorem qB.run_zero : (zeroValue t).run P w = .ok I.z w := by simp [zeroValue, I.run_info, I.hz]
theorem qB.agg_eq : (match I.d with | .struct _ | .array _ _ => true | _ => false) = ti.ag := by
 have hk := I.hk
 revert hk
 unfold TI.ag
 generalize I.d = d
 cases ti with
 | mk td sz wd zs =>
  simp only
  cases td <;> cases d <;> simp [dOk]
theorem qB.run_agg : (isAgg t).run P w = .ok ti.ag w := by
 rw [← I.agg_eq]
 unfold isAgg
 simp only [Sem.run_bind, I.run_und, Result.andThen_ok]
 split <;> simp_all
end
theorem qB.slice {P : Program} {t : Nat} {ti : TI} (I : qB P t ti) {e : Nat} (h : ti.d = .slice e) : I.d = .slice e := by
 have hk := I.hk
 rw [h] at hk
 cases hd : I.d <;> rw [hd] at hk <;> simp [dOk] at hk
 rw [hk]
theorem qB.kint {P : Program} {t : Nat} {ti : TI} (I : qB P t ti) {k : IntKind} (h : ti.d = .int k) : I.d = .int k := by
 have hk := I.hk
 rw [h] at hk
 cases hd : I.d <;> rw [hd] at hk <;> simp [dOk] at hk
 rw [qE hk]
theorem qB.arr {P : Program} {t : Nat} {ti : TI} (I : qB P t ti) {n e : Nat} (h : ti.d = .arr n e) : I.d = .array n e := by
 have hk := I.hk
 rw [h] at hk
 cases hd : I.d <;> rw [hd] at hk <;> simp [dOk] at hk
 rw [hk.1, hk.2]
theorem qfo : ∀ {fs : List (Nat × Nat)} {gs : List Field}, dOk.fsOk fs gs = true → ∀ (j : Nat) q, fs[j]? = some q → ∃ f, gs[j]? = some f ∧ f.offset = q.1 ∧ f.type = q.2
 | [], [], _, _, _, h => by simp at h
 | (o, t) :: r, f :: s, h, 0, q, hq => by
  simp only [dOk.fsOk, Bool.and_eq_true] at h
  simp at hq; subst hq
  exact ⟨f, rfl, (qu h.1.1).symm, (qu h.1.2).symm⟩
 | (o, t) :: r, f :: s, h, j + 1, q, hq => by
  simp only [dOk.fsOk, Bool.and_eq_true] at h
  simpa using qfo h.2 j q (by simpa using hq)
 | [], _ :: _, h, _, _, _ => by cases h
 | _ :: _, [], h, _, _, _ => by cases h
theorem qfn : ∀ {fs : List (Nat × Nat)} {gs : List Field}, dOk.fsOk fs gs = true → ∀ f ∈ gs, ∃ q ∈ fs, f.type = q.2
 | [], [], _, _, h => by cases h
 | (o, t) :: r, f :: s, h, f', hf => by
  simp only [dOk.fsOk, Bool.and_eq_true] at h
  rcases List.mem_cons.1 hf with rfl | hf
  ·exact ⟨(o, t), by simp, (qu h.1.2).symm⟩
  ·obtain ⟨q, a, b⟩ := qfn h.2 f' hf
   exact ⟨q, by simp [a], b⟩
 | [], _ :: _, h, _, _ => by cases h
 | _ :: _, [], h, _, _ => by cases h
theorem qB.struct {P : Program} {t : Nat} {ti : TI} (I : qB P t ti) {fs : List (Nat × Nat)} (h : ti.d = .struct fs) :
  ∃ gs : Array Field, I.d = .struct gs ∧ ∀ (j : Nat) q, fs[j]? = some q → ∃ f, gs[j]? = some f ∧ f.offset = q.1 ∧ f.type = q.2 := by
 have hk := I.hk
 rw [h] at hk
 cases hd : I.d <;> rw [hd] at hk <;> simp [dOk] at hk
 rename_i gs
 refine ⟨gs, rfl, fun j q hq => ?_⟩
 obtain ⟨f, a, b⟩ := qfo hk j q hq
 exact ⟨f, by simpa using a, b⟩
theorem qit {M : Mem} {φ : Plc} {z : Z} {v : Value} (h : zOk z v = true) : RL M φ v z.v := by
 unfold zOk at h
 split at h
 ·simp only [Bool.and_eq_true, decide_eq_true_eq] at h
  obtain ⟨h, rfl⟩ := h
  obtain rfl := qE h
  rename_i k
  exact ⟨rfl, fun _ => Int.le_refl 0⟩
 ·rename_i b
  cases b
  ·rfl
  ·cases h
 ·obtain rfl := of_decide_eq_true h
  rfl
 ·simp only [Bool.and_eq_true] at h
  obtain rfl := qu h.1
  obtain rfl := qu h.2
  rfl
 ·rfl
 ·cases h
theorem qb3 {M : Mem} {φ : Plc} : ∀ {zs : List Z} {vs : List Value}, qbN zs vs = true → zs.length = vs.length ∧ ∀ (j : Nat) x, (zs.map Z.v)[j]? = some x → ∃ u, vs[j]? = some u ∧ RL M φ u x
 | [], [], _ => ⟨rfl, fun j x h => by simp at h⟩
 | z :: zs, v :: vs, h => by
  simp only [qbN, Bool.and_eq_true] at h
  obtain ⟨a, b⟩ := qb3 (M := M) (φ := φ) h.2
  refine ⟨by simp [a], fun j x hx => ?_⟩
  cases j with
  | zero => simp at hx; subst hx; exact ⟨v, rfl, qit h.1⟩
  | succ j => simpa using b j x (by simpa using hx)
 | [], _ :: _, h => by cases h
 | _ :: _, [], h => by cases h
theorem qbk (k : IntKind) (n : Int) : wr k n = k.wrap n := by
 cases k <;> simp [wr, IntKind.wrap, IntKind.signed, IntKind.bits, wrap64] <;> first | rfl | omega
theorem qdB (k : IntKind) (n : Int) : inr k (k.wrap n) := by
 unfold inr
 cases k <;> simp [qbg, IntKind.wrap, IntKind.signed, IntKind.bits] <;> omega
theorem qbM (k : IntKind) (n : Int) : inr k (wr k n) := qbk k n ▸ qdB k n
theorem qcf (op : BinOp) (k : IntKind) (a b : Int) : inr k (Go.bits op k a b) := qdB k _
theorem qio {k : IntKind} {a b : Int} (h : inr k a) : inr k (a.tmod b) := fun hk => Int.tmod_nonneg b (h hk)
theorem qe6 {k : IntKind} {a b : Int} (h : inr k a) (hb : 0 < b) : inr k (a / b) := fun hk => Int.ediv_nonneg (h hk) (Int.le_of_lt hb)
def qdH (P : Program) (Post : Value → World → Prop) : Result Next → Prop
 | .ok (.value v) w' => Post v w'
 | .ok .skip w' => Post undef w'
 | .ok (.enter f args) w' => Calls P f args w' fun e w'' => ∃ v, e = .returned v ∧ Post v w''
 | _ => False
def qW (P : Program) (ρ : Operand → Value) (o : Oper) (w : World) (Post : Value → World → Prop) : Prop := qdH P Post ((execOp ρ o).run P w)
def qp : List (Nat × Blk) → (Nat → Blk) → Nat → Blk
 | [], B, id => B id
 | (j, b) :: r, B, id => bc (Nat.beq j id) b (qp r B id)
@[simp] theorem qcM {α : Type u} (x y : α) : bc true x y = x := rfl
@[simp] theorem qbQ {α : Type u} (x y : α) : bc false x y = y := rfl
theorem qat {α : Type u} {b : Bool} {x y : Option α} {r : α} (h : bc b x y = some r) : (b = true ∧ x = some r) ∨ (b = false ∧ y = some r) := by
 cases b
 ·exact .inr ⟨rfl, h⟩
 ·exact .inl ⟨rfl, h⟩
theorem qf {α : Type u} {b : Bool} {x : Option α} {r : α} (h : bc b x none = some r) : b = true ∧ x = some r := by
 cases b
 ·cases h
 ·exact ⟨rfl, h⟩
theorem qi {α : Type u} {β : Type v} {x : Option α} {f : α → Option β} {r : β} (h : x.ob f = some r) : ∃ a, x = some a ∧ f a = some r := by
 cases x with
 | none => cases h
 | some a => exact ⟨a, rfl, h⟩
theorem qx {α : Type u} {p : Prop} [d : Decidable p] {x : Option α} {r : α} (h : (if p then x else none) = some r) : p ∧ x = some r := by
 split at h
 ·exact ⟨‹_›, h⟩
 ·cases h
theorem qbZ (U : List (Nat × Blk)) (O : List (Nat × Blk)) (id : Nat) : qc (U ++ O) id = qp U (qc O) id := by
 induction U with
 | nil => rfl
 | cons x r ih => obtain ⟨j, b⟩ := x; simp only [List.cons_append, qc, qp, ih]
def qX (M : Mem) (φ : Plc) (B : Nat → Blk) (w : World) (x : V) (U : List (Nat × Blk)) (nx n' : Nat) (v : Value) (w' : World) : Prop :=
 ∃ M' φ', RV M' φ' v x ∧ Rel M' φ' (qp U B) w' ∧ Stp M φ B w M' φ' (qp U B) w' ∧ (∀ id, id < nx ∨ n' ≤ id → φ' id = φ id) ∧ qr φ φ'
structure qP (C : Cfg) (P : Program) (g : Operand → V) (B : Nat → Blk) (dr : Bool) (o : Oper) (M : Mem) (φ : Plc) (B' : Nat → Blk) (w : World) (ρ : Operand → Value) : Prop where
 rel : Rel M φ B' w
 args : ∀ y ∈ o.op.operands.toList, RV M φ (ρ y) (g y)
 agree' : qbz o.op = false → ∀ id ∈ qbs g o, B' id = B id
 seq : dr = false → B' = B
 glob : Ext C.M0 M
theorem qP.agree {C : Cfg} {P : Program} {g : Operand → V} {B : Nat → Blk} {dr : Bool} {o : Oper} {M : Mem} {φ : Plc} {B' : Nat → Blk} {w : World} {ρ : Operand → Value} (h : qP C P g B dr o M φ B' w ρ)
  (id : Nat) (hid : id ∈ qbs g o) (hb : qbz o.op = false := by rfl) : B' id = B id := h.agree' hb id hid
theorem qhU {M : Mem} {φ : Plc} {B : Nat → Blk} {w : World} {x : V} {nx : Nat} {v : Value} (hv : RV M φ v x) (hr : Rel M φ B w) : qX M φ B w x [] nx nx v w :=
 ⟨M, φ, hv, hr, Stp.refl M φ B w, fun _ _ => rfl, qr.refl φ⟩
theorem qW.value {P : Program} {ρ : Operand → Value} {o : Oper} {w : World} {M : Mem} {φ : Plc} {B : Nat → Blk} {x : V} {nx : Nat} {v : Value}
  (h : (execOp ρ o).run P w = .ok (.value v) w) (hv : RV M φ v x) (hr : Rel M φ B w) : qW P ρ o w (qX M φ B w x [] nx nx) := by
 unfold qW; rw [h]; exact qhU hv hr
theorem qiK {M : Mem} {φ : Plc} {v : Value} {k : IntKind} {n : Int} : RV M φ v (.int k n) ↔ v = .int k n ∧ inr k n := Iff.rfl
def tr : V → Option Bool := vb
theorem qdA {M : Mem} {φ : Plc} {v : Value} {x : V} {b : Bool} (h : vb x = some b) (hv : RV M φ v x) : v = .bool b := by
 cases x <;> simp [vb] at h <;> subst h <;> exact hv
theorem qfk {k : IntKind} {n : Int} (h : qba k n = true) : inr k n := by
 intro hk
 simp only [qba, hk, Bool.false_or, decide_eq_true_eq] at h
 exact h
theorem qfP {M : Mem} {φ : Plc} (v : Value) : RL M φ v (qaq v) := by
 unfold qaq
 split
 ·rename_i k n
  cases h : qba k n
  ·trivial
  ·exact ⟨rfl, qfk h⟩
 all_goals first | rfl | trivial
section
variable {P : Program} {M : Mem} {φ : Plc} {w : World}
theorem qgm {C : Cfg} {t : Nat} {v : Value} {x : V} (h : RV M φ v x) : RV M φ v (qdw C t x) := by
 unfold qdw; split <;> exact h
theorem qfa {op : BinOp} {t : Nat} {x y : Operand} {k k' : IntKind} {a b : Int} : (eqGuard op t x y (.int k a) (.int k' b)).run P w = .ok () w := by unfold eqGuard; cases op <;> rfl
theorem qdZ {op : BinOp} {t : Nat} {x y : Operand} {a b : ByteArray} : (eqGuard op t x y (.string a) (.string b)).run P w = .ok () w := by unfold eqGuard; cases op <;> rfl
theorem qe9 {op : BinOp} {t : Nat} {x y : Operand} {a b : Bool} : (eqGuard op t x y (.bool a) (.bool b)).run P w = .ok () w := by unfold eqGuard; cases op <;> rfl
theorem qid (k : IntKind) (a : Int) (n : Nat) (hn : n < k.bits) (yk : IntKind) : (Op.shift .shl k a yk (n : Int)).run P w = .ok (.int k (wr k (a * ((2 ^ n : Nat) : Int)))) w := by
 unfold Op.shift
 rw [if_neg (by omega), qbk]
 have : min (n : Int).toNat k.bits = n := by simp; omega
 simp only [this]
 simp
theorem qie (k : IntKind) (a : Int) (n : Nat) (hn : n < k.bits) (yk : IntKind) : (Op.shift .shr k a yk (n : Int)).run P w = .ok (.int k (a / ((2 ^ n : Nat) : Int))) w := by
 unfold Op.shift
 rw [if_neg (by omega)]
 have : min (n : Int).toNat k.bits = n := by simp; omega
 simp only [this]
 rw [Int.fdiv_eq_ediv_of_nonneg _ (Int.pow_nonneg (by decide))]
 simp
theorem qga (k : IntKind) (a b : Int) (hb : 0 ≤ b) (yk : IntKind) : (Op.shift .shl k a yk b).run P w = .ok (.int k (shl k a b)) w := by
 unfold Op.shift
 rw [if_neg (by omega)]
 simp [shl]
theorem qgc (k : IntKind) (a b : Int) (hb : 0 ≤ b) (yk : IntKind) : (Op.shift .shr k a yk b).run P w = .ok (.int k (shr k a b)) w := by
 unfold Op.shift
 rw [if_neg (by omega)]
 simp only [shr]
 rw [Int.fdiv_eq_ediv_of_nonneg _ (Int.pow_nonneg (by decide))]
 simp
theorem qfY (n : Nat) : (0 : Int) < ((2 ^ n : Nat) : Int) := by have := Nat.two_pow_pos n; omega
theorem qgb {k : IntKind} {a b : Int} (h : inr k a) : inr k (shr k a b) := by
 unfold shr
 have : ((2 : Int) ^ min b.toNat k.bits) = ((2 ^ min b.toNat k.bits : Nat) : Int) := by simp
 rw [this]
 exact qe6 h (qfY _)
theorem qgp {k : IntKind} {n : Int} (hk : qbg k = false) (h : inr k n) : 0 ≤ n := by
 exact h hk
theorem qhj {R : Type} {c : Bool} {b : Int} {x : Option R} {r : R} (h : nzB c b x = some r) (hc : c = true → b ≠ 0) : b ≠ 0 ∧ x = some r := by
 cases c
 ·simp only [nzB] at h
  split at h
  ·cases h
  ·exact ⟨‹_›, h⟩
 ·exact ⟨hc rfl, h⟩
theorem qg1 {R : Type} {op : BinOp} {k : IntKind} {a b : Int} {c : Bool} {K : V → Option R} {r : R} (h : qfy op k a b c K = some r) (hc : c = true → b ≠ 0) (hs : qc3 op = false) :
  ∃ X, K X = some r ∧ ∀ {P : Program} {M : Mem} {φ : Plc} {w : World} (t : Nat), inr k a → inr k b → ∃ v, (Go.binOp op t (.int k a) (.int k b)).run P w = .ok v w ∧ RV M φ v X := by
 have one : ∀ {X : V} {v : Value}, K X = some r → (∀ {P : Program} {w : World} (t : Nat), (Go.binOp op t (.int k a) (.int k b)).run P w = .ok v w) → (∀ {M : Mem} {φ : Plc}, inr k a → inr k b → RV M φ v X) →
   ∃ X, K X = some r ∧ ∀ {P : Program} {M : Mem} {φ : Plc} {w : World} (t : Nat), inr k a → inr k b → ∃ v, (Go.binOp op t (.int k a) (.int k b)).run P w = .ok v w ∧ RV M φ v X :=
  fun hK hr hv => ⟨_, hK, fun t ha hb => ⟨_, hr t, hv ha hb⟩⟩
 have nz : ∀ {X : V}, nzB c b (K X) = some r → b ≠ 0 ∧ K X = some r := fun h => qhj h hc
 cases op with
 | add => exact one h (v := .int k (k.wrap (a + b))) (fun t => by simp [Go.binOp, Op.intArith]) (fun _ _ => ⟨by rw [qbk], qbM _ _⟩)
 | sub => exact one h (v := .int k (k.wrap (a - b))) (fun t => by simp [Go.binOp, Op.intArith]) (fun _ _ => ⟨by rw [qbk], qbM _ _⟩)
 | mul => exact one h (v := .int k (k.wrap (a * b))) (fun t => by simp [Go.binOp, Op.intArith]) (fun _ _ => ⟨by rw [qbk], qbM _ _⟩)
 | quo => exact one (nz h).2 (v := .int k (k.wrap (a.tdiv b))) (fun t => by simp [Go.binOp, Op.intDiv, (nz h).1]) (fun _ _ => ⟨by rw [qbk], qbM _ _⟩)
 | rem => exact one (nz h).2 (v := .int k (a.tmod b)) (fun t => by simp [Go.binOp, Op.intDiv, (nz h).1]) (fun ha _ => ⟨rfl, qio ha⟩)
 | and => exact one h (v := .int k (Go.bits .and k a b)) (fun t => by simp [Go.binOp, intBits_and]) (fun _ _ => ⟨rfl, qcf _ _ _ _⟩)
 | or => exact one h (v := .int k (Go.bits .or k a b)) (fun t => by simp [Go.binOp, intBits_or]) (fun _ _ => ⟨rfl, qcf _ _ _ _⟩)
 | xor => exact one h (v := .int k (Go.bits .xor k a b)) (fun t => by simp [Go.binOp, intBits_xor]) (fun _ _ => ⟨rfl, qcf _ _ _ _⟩)
 | andNot => exact one h (v := .int k (Go.bits .andNot k a b)) (fun t => by simp [Go.binOp, intBits_andNot]) (fun _ _ => ⟨rfl, qcf _ _ _ _⟩)
 | eql => exact one h (v := .bool (a == b)) (fun t => by simp [Go.binOp, Op.intCmp]) (fun _ _ => by show Value.bool _ = Value.bool _; congr 1)
 | neq => exact one h (v := .bool (a != b)) (fun t => by simp [Go.binOp, Op.intCmp]) (fun _ _ => by show Value.bool _ = Value.bool _; congr 1; by_cases e : a = b <;> simp [e])
 | lss => exact one h (v := .bool (decide (a < b))) (fun t => by simp [Go.binOp, Op.intCmp]) (fun _ _ => rfl)
 | leq => exact one h (v := .bool (decide (a ≤ b))) (fun t => by simp [Go.binOp, Op.intCmp]) (fun _ _ => rfl)
 | gtr => exact one h (v := .bool (decide (a > b))) (fun t => by simp [Go.binOp, Op.intCmp]) (fun _ _ => rfl)
 | geq => exact one h (v := .bool (decide (a ≥ b))) (fun t => by simp [Go.binOp, Op.intCmp]) (fun _ _ => rfl)
 | shl => simp [qc3] at hs
 | shr => simp [qc3] at hs
theorem qgi {a b : ByteArray} (h : a.toList = b.toList) : a = b := by
 have : a.data.toList = b.data.toList := by rwa [ByteArray.toList_eq, ByteArray.toList_eq] at h
 cases a; cases b
 simp only [ByteArray.mk.injEq]
 exact Array.toList_inj.1 this
theorem qgO {P : Program} {C : Cfg} {t : Nat} (hT : TOk P C.T) (h : qbC C t = true) : ∀ w : World, (underlying t).run P w = .ok .bool w := by
 unfold qbC at h
 split at h
 ·rename_i ti ht
  split at h
  ·rename_i hd
   obtain ⟨I⟩ := qM (hT _ _ ht)
   have hk := I.hk
   rw [hd] at hk
   have : I.d = .bool := by cases e : I.d <;> rw [e] at hk <;> first | rfl | simp [dOk] at hk
   intro w
   rw [I.run_und, this]
  ·cases h
 ·cases h
theorem qfb {P : Program} {C : Cfg} {t : Nat} {a b : Bool} {w : World} (hT : TOk P C.T) (h : qbC C t = true) (d : Nat) : (Op.equalIn (d + 1) t (.bool a) (.bool b)).run P w = .ok (a == b) w := by
 simp [Op.equalIn, qgO hT h]
theorem qgM {P : Program} {C : Cfg} {t : Nat} {a b : Bool} {w : World} (hT : TOk P C.T) (h : qbC C t = true) : (Go.binOp .eql t (.bool a) (.bool b)).run P w = .ok (.bool (a == b)) w := by
 show (Op.equalIn 10000 t (.bool a) (.bool b) >>= fun x => pure (Value.bool x) : Sem Value).run P w = _
 rw [Sem.run_bind, qfb hT h 9999]; rfl
theorem qgN {P : Program} {C : Cfg} {t : Nat} {a b : Bool} {w : World} (hT : TOk P C.T) (h : qbC C t = true) : (Go.binOp .neq t (.bool a) (.bool b)).run P w = .ok (.bool (!(a == b))) w := by
 show (Op.equalIn 10000 t (.bool a) (.bool b) >>= fun x => pure (Value.bool !x) : Sem Value).run P w = _
 rw [Sem.run_bind, qfb hT h 9999]; rfl
theorem qdk {P : Program} {C : Cfg} {t : Nat} (hT : TOk P C.T) (h : qc1 C t = true) : ∃ e, ∀ w : World, (underlying t).run P w = .ok (.pointer e) w := by
 unfold qc1 at h
 split at h
 ·rename_i ti ht
  split at h
  ·rename_i e hd
   obtain ⟨I⟩ := qM (hT _ _ ht)
   have hk := I.hk
   rw [hd] at hk
   have : I.d = .pointer e := by cases hh : I.d <;> rw [hh] at hk <;> simp [dOk] at hk; rw [hk]
   exact ⟨e, fun w => by rw [I.run_und, this]⟩
  ·cases h
 ·cases h
theorem qfd {P : Program} {t : Nat} {e : TypeId} {a : Addr} {w : World} (hu : ∀ w : World, (underlying t).run P w = .ok (.pointer e) w) (d : Nat) : (Op.equalIn (d + 1) t (.pointer (some a)) (.pointer none)).run P w = .ok false w := by
 simp [Op.equalIn, hu]
theorem qfc {P : Program} {t : Nat} {e : TypeId} {w : World} (hu : ∀ w : World, (underlying t).run P w = .ok (.pointer e) w) (d : Nat) : (Op.equalIn (d + 1) t (.pointer none) (.pointer none)).run P w = .ok true w := by
 simp [Op.equalIn, hu]
theorem qhW {P : Program} {C : Cfg} {op : BinOp} {t : Nat} {x y : Operand} {V1 V2 X : V} (hT : TOk P C.T) (h : qey (qc1 C t) op V1 V2 = some X) {M : Mem} {φ : Plc} {w : World} {a b : Value} (ha : RV M φ a V1) (hb : RV M φ b V2) :
  ∃ v, (do eqGuard op t x y a b; Go.binOp op t a b : Sem Value).run P w = .ok v w ∧ RV M φ v X := by
 unfold qey at h
 split at h
 ·rename_i htp
  obtain ⟨e, hu⟩ := qdk hT htp
  cases h
  obtain ⟨p, _, rfl⟩ := ha
  obtain rfl : b = .pointer none := hb
  refine ⟨.bool false, ?_, rfl⟩
  show (Op.equalIn 10000 t _ _ >>= fun x => pure (Value.bool x) : Sem Value).run P w = _
  rw [Sem.run_bind, qfd hu 9999]; rfl
 ·rename_i htp
  obtain ⟨e, hu⟩ := qdk hT htp
  cases h
  obtain ⟨p, _, rfl⟩ := ha
  obtain rfl : b = .pointer none := hb
  refine ⟨.bool true, ?_, rfl⟩
  show (Op.equalIn 10000 t _ _ >>= fun x => pure (Value.bool !x) : Sem Value).run P w = _
  rw [Sem.run_bind, qfd hu 9999]; rfl
 ·rename_i htp
  obtain ⟨e, hu⟩ := qdk hT htp
  cases h
  obtain rfl : a = .pointer none := ha
  obtain rfl : b = .pointer none := hb
  refine ⟨.bool true, ?_, rfl⟩
  show (Op.equalIn 10000 t _ _ >>= fun x => pure (Value.bool x) : Sem Value).run P w = _
  rw [Sem.run_bind, qfc hu 9999]; rfl
 ·rename_i htp
  obtain ⟨e, hu⟩ := qdk hT htp
  cases h
  obtain rfl : a = .pointer none := ha
  obtain rfl : b = .pointer none := hb
  refine ⟨.bool false, ?_, rfl⟩
  show (Op.equalIn 10000 t _ _ >>= fun x => pure (Value.bool !x) : Sem Value).run P w = _
  rw [Sem.run_bind, qfc hu 9999]; rfl
 ·cases h
theorem qhi {y : Operand} {k : IntKind} {b : Int} (h : qep y = true) (hy : ∀ c, y = .const c → (V.int k b) = qaq c) : b ≠ 0 := by
 unfold qep at h
 split at h
 ·have := hy _ rfl
  simp only [qaq] at this
  cases hf : qba _ _ <;> rw [hf] at this <;> simp at this
  omega
 ·have := hy _ rfl
  simp only [qaq] at this
  cases hf : qba _ _ <;> rw [hf] at this <;> simp at this
  omega
 ·cases h
theorem qis {y : Operand} {k k' : IntKind} {b : Int} {n : Nat} (h : qeL k y = some n) (hy : ∀ c, y = .const c → (V.int k' b) = qaq c) : b = (n : Int) ∧ n < k.bits := by
 unfold qeL at h
 split at h
 ·rename_i n'
  obtain ⟨h1, h2⟩ := qf h
  cases h2
  have := hy _ rfl
  simp only [qaq] at this
  cases hf : qba _ _ <;> rw [hf] at this <;> simp at this
  exact ⟨this.2, Nat.blt_eq.mp h1⟩
 ·cases h
theorem qic {R : Type} {op : BinOp} {k yk : IntKind} {a b : Int} {c : Option Nat} {K : V → Option R} {r : R} (h : qeG op k a yk b c K = some r) (hc : ∀ n, c = some n → b = (n : Int) ∧ n < k.bits) :
  ∃ X, K X = some r ∧ ∀ {P : Program} {M : Mem} {φ : Plc} {w : World} (t : Nat), inr k a → inr yk b → ∃ v, (Go.binOp op t (.int k a) (.int yk b)).run P w = .ok v w ∧ RV M φ v X := by
 unfold qeG at h
 split at h
 ·rename_i n
  obtain ⟨rfl, hn⟩ := hc n rfl
  exact ⟨_, h, fun t _ _ => ⟨_, qid k a n hn yk, rfl, qbM _ _⟩⟩
 ·rename_i n
  obtain ⟨rfl, hn⟩ := hc n rfl
  exact ⟨_, h, fun t ha _ => ⟨_, qie k a n hn yk, rfl, qe6 ha (qfY n)⟩⟩
 ·rcases qat h with ⟨_, h⟩ | ⟨hs, h⟩
  ·obtain ⟨hb, h⟩ := qx h
   exact ⟨_, h, fun t _ _ => ⟨_, qga k a b hb yk, rfl, qdB _ _⟩⟩
  ·exact ⟨_, h, fun t _ hy => ⟨_, qga k a b (qgp hs hy) yk, rfl, qdB _ _⟩⟩
 ·rcases qat h with ⟨_, h⟩ | ⟨hs, h⟩
  ·obtain ⟨hb, h⟩ := qx h
   exact ⟨_, h, fun t ha _ => ⟨_, qgc k a b hb yk, rfl, qgb ha⟩⟩
  ·exact ⟨_, h, fun t ha hy => ⟨_, qgc k a b (qgp hs hy) yk, rfl, qgb ha⟩⟩
 ·cases h
theorem qgL {R : Type} {C : Cfg} {op : BinOp} {t : Nat} {x y : Operand} {V1 V2 : V} {K : V → Option R} {r : R} (h : qdR op (qbC C t) y V1 V2 K = some r)
    (hy : ∀ c, y = .const c → V2 = qaq c) :
    ∃ X, K X = some r ∧ ∀ {P : Program} {M : Mem} {φ : Plc} {w : World} {a b : Value}, TOk P C.T → RV M φ a V1 → RV M φ b V2 →
      ∃ v, (do eqGuard op t x y a b; Go.binOp op t a b : Sem Value).run P w = .ok v w ∧ RV M φ v X := by
  unfold qdR at h
  split at h
  · rename_i k a k' b
    rcases qat h with ⟨hs, h⟩ | ⟨hs, h⟩
    · obtain ⟨X, hX, hh⟩ := qic h (fun n hn => qis hn hy)
      refine ⟨X, hX, fun {P M φ w a' b'} _ ha hb => ?_⟩
      obtain ⟨rfl, ia⟩ := ha
      obtain ⟨rfl, ib⟩ := hb
      obtain ⟨v, e, hv⟩ := hh (P := P) (M := M) (φ := φ) (w := w) t ia ib
      exact ⟨v, by rw [Sem.run_bind, qfa]; exact e, hv⟩
    · have hk := (qf h).1
      obtain rfl := qE hk
      have h := (qf h).2
      obtain ⟨X, hX, hh⟩ := qg1 h (fun hn => qhi hn hy) hs
      refine ⟨X, hX, fun {P M φ w a' b'} _ ha hb => ?_⟩
      obtain ⟨rfl, ia⟩ := ha
      obtain ⟨rfl, ib⟩ := hb
      obtain ⟨v, e, hv⟩ := hh (P := P) (M := M) (φ := φ) (w := w) t ia ib
      exact ⟨v, by rw [Sem.run_bind, qfa]; exact e, hv⟩
  · rename_i a b
    split at h
    · obtain ⟨hlt, h⟩ := qx h
      refine ⟨_, h, fun {P M φ w a' b'} _ ha hb => ?_⟩
      obtain rfl : a' = .string a := ha
      obtain rfl : b' = .string b := hb
      refine ⟨.string (a ++ b), ?_, rfl⟩
      rw [Sem.run_bind, qdZ]
      simp only [Result.andThen_ok, Go.binOp, Op.stringOp]
      rw [if_neg (by have : IntKind.i64.max = 9223372036854775807 := by decide
                     rw [this]; omega)]
      rfl
    · refine ⟨_, h, fun {P M φ w a' b'} _ ha hb => ?_⟩
      obtain rfl : a' = .string a := ha
      obtain rfl : b' = .string b := hb
      refine ⟨.bool (a.toList == b.toList), by rw [Sem.run_bind, qdZ]; rfl, ?_⟩
      show Value.bool _ = Value.bool _
      congr 1
      by_cases e : a = b
      · simp [e]
      · have : ¬ a.toList = b.toList := fun h' => e (qgi h')
        simp [e, this]
    · refine ⟨_, h, fun {P M φ w a' b'} _ ha hb => ?_⟩
      obtain rfl : a' = .string a := ha
      obtain rfl : b' = .string b := hb
      refine ⟨.bool (!(a.toList == b.toList)), by rw [Sem.run_bind, qdZ]; rfl, ?_⟩
      show Value.bool _ = Value.bool _
      congr 1
      by_cases e : a = b
      · simp [e]
      · have : ¬ a.toList = b.toList := fun h' => e (qgi h')
        simp [e, this]
    · cases h
  · split at h
    · rename_i a b ha hb htb
      refine ⟨_, h, fun {P M φ w a' b'} hT h1 h2 => ?_⟩
      obtain rfl := qdA ha h1
      obtain rfl := qdA hb h2
      refine ⟨.bool (a == b), ?_, by show Value.bool _ = Value.bool _; first | (congr 1; done) | (congr 1; cases a <;> cases b <;> rfl)⟩
      rw [Sem.run_bind, qe9]
      exact qgM hT htb
    · rename_i a b ha hb htb
      refine ⟨_, h, fun {P M φ w a' b'} hT h1 h2 => ?_⟩
      obtain rfl := qdA ha h1
      obtain rfl := qdA hb h2
      refine ⟨.bool (!(a == b)), ?_, by show Value.bool _ = Value.bool _; first | (congr 1; done) | (congr 1; cases a <;> cases b <;> rfl)⟩
      rw [Sem.run_bind, qe9]
      exact qgN hT htb
    · cases h
end
def qh (C : Cfg) (P : Program) (g : Operand → V) (B : Nat → Blk) (nx : Nat) (dr : Bool) (o : Oper) (x : V) (U : List (Nat × Blk)) (n' : Nat) : Prop :=
 nx ≤ n' ∧ ∀ M φ B' w ρ, qP C P g B dr o M φ B' w ρ → (∀ id, nx ≤ id → id < n' → φ id = none) → qW P ρ o w (qX M φ B' w x U nx n')
section
variable {C : Cfg} {P : Program} {g : Operand → V} {B : Nat → Blk} {nx : Nat} {dr : Bool} {o : Oper}
theorem qh.pure {x : V} (h : ∀ M φ B' w ρ, qP C P g B dr o M φ B' w ρ → ∃ v, (execOp ρ o).run P w = .ok (.value v) w ∧ RV M φ v x) : qh C P g B nx dr o x [] nx :=
 ⟨Nat.le_refl _, fun M φ B' w ρ hi _ => let ⟨_, e, hv⟩ := h M φ B' w ρ hi; qW.value e hv hi.rel⟩
theorem qiD {M : Mem} {φ : Plc} {v : Value} {x : V} (h : RV M φ v x) (hx : qaT x = false) : RL M φ v x := by rwa [qeQ hx] at h
theorem qdi {t : Nat} {ti : TI} {M : Mem} {φ : Plc} {w : World} (I : qB P t ti) {l : List V} {a : Array Value} {off : Nat} {x : V} (h : qaW ti l off = some x)
  (hs : a.size = l.length) (ha : ∀ (j : Nat) y, l[j]? = some y → ∃ u, a[j]? = some u ∧ RL M φ u y) : ∃ v, (part t a off).run P w = .ok v w ∧ RA M φ v x := by
 unfold qaW at h
 rcases qat h with ⟨hag, h⟩ | ⟨hag, h⟩
 ·cases (qf h).2
  refine ⟨.agg (a.extract off (off + ti.sz)), ?_, _, rfl, ?_, ?_⟩
  ·unfold part
   simp only [Sem.run_bind, I.run_agg, Result.andThen_ok, hag, if_true, I.run_size]
   rfl
  ·simp [hs]; omega
  ·intro j y hy
   simp only [List.getElem?_take, List.getElem?_drop] at hy
   split at hy
   ·obtain ⟨u, hu, hr⟩ := ha _ y hy
    refine ⟨u, ?_, hr⟩
    have hlt : off + j < a.size := (Array.getElem?_eq_some_iff.1 hu).1
    rw [Array.getElem?_extract, if_pos (by omega)]
    exact hu
   ·cases hy
 ·obtain ⟨u, hu, hr⟩ := ha off x h
  refine ⟨u, ?_, ?_⟩
  ·unfold part
   simp only [Sem.run_bind, I.run_agg, Result.andThen_ok, hag, Bool.false_eq_true, if_false, hu]
   rfl
  ·have : qaT x = false := by cases x <;> first | rfl | exact hr.elim
   rwa [qbP this]
theorem qcY (hT : TOk P C.T) {t f off : Nat} {ti : TI} (h : qbR C t f = some (off, ti)) :
  ∃ (gs : Array Field) (fd : Field), (∀ w, (underlying t).run P w = .ok (.struct gs) w) ∧ gs[f]? = some fd ∧ fd.offset = off ∧ Nonempty (qB P fd.type ti) := by
 unfold qbR at h
 split at h
 ·rename_i fs sz wd zs hCt
  obtain ⟨q, hq, h⟩ := qi h
  obtain ⟨ti', hti, h⟩ := qi h
  cases h
  obtain ⟨I⟩ := qM (hT _ _ hCt)
  obtain ⟨gs, hgs, hget⟩ := I.struct rfl
  obtain ⟨fd, h1, h2, h3⟩ := hget f q hq
  exact ⟨gs, fd, fun w => by rw [I.run_und, hgs], h1, h2, h3 ▸ qM (hT _ _ hti)⟩
 ·cases h
theorem qiz {M : Mem} {φ : Plc} {a : Array Value} {n : Nat} {u : Value} (h : a[n]? = some u) : a.getD n undef = u := by simp [Array.getD_eq_getD_getElem?, h]
theorem qeD {B B' : Nat → Blk} {M : Mem} {φ : Plc} {w : World} {v : Value} {x : V} {k : IntKind} {l : List Int} (h : qaC B x = some (k, l)) (hv : RV M φ v x) (hr : Rel M φ B' w)
  (hB : ∀ id ∈ qG x, B' id = B id) : ∃ a cap, v = .slice a l.length cap ∧ l.length ≤ cap ∧ (∀ y ∈ l, inr k y) ∧
   ((a = none ∧ l = [] ∧ cap = 0) ∨ ∃ b o, (a = some ⟨b, o, none⟩) ∧ ∀ (i : Nat) y, l[i]? = some y → w.cell? ⟨b, o + i, none⟩ = some (.int k y)) := by
 unfold qaC at h
 split at h
 ·cases h
  obtain ⟨h0, ⟨rfl, rfl⟩ | ⟨b, o, cap, rfl, h1, h2⟩⟩ := hv
  ·exact ⟨none, 0, rfl, Nat.le_refl _, h0, .inl ⟨rfl, rfl, rfl⟩⟩
  ·exact ⟨_, cap, rfl, h1, h0, .inr ⟨b, o, rfl, fun i y hy => hr.holds _ _ _ (h2 i y hy)⟩⟩
 ·rename_i id
  obtain ⟨p, hp, rfl⟩ := hv
  have hb := hr.blk id p hp
  rw [hB id (by simp [qG])] at hb
  unfold Pl.val
  split at h
  ·rename_i k' l' t hBid
   cases h
   rw [hBid] at hb
   obtain ⟨h1, h2, h3, h4, h5, h6, h7⟩ := hb
   have hin : ∀ y ∈ l, inr k y := fun y hy => by obtain ⟨j, hj⟩ := List.getElem?_of_mem hy; exact (h7 j y hj).2
   cases hn : p.nl
   ·exact ⟨some ⟨p.b, p.s, none⟩, p.cap, by simp [h1], by omega, hin, .inr ⟨_, _, rfl, fun i y hy => (h7 i y hy).1⟩⟩
   ·obtain ⟨hc, hcap⟩ := h3 hn
    have : l = [] := List.length_eq_zero_iff.1 (by omega)
    subst this
    exact ⟨none, 0, by simp, by simp, hin, .inl ⟨rfl, rfl, rfl⟩⟩
  ·rename_i k' l' hBid
   cases h
   rw [hBid] at hb
   obtain ⟨h1, h2, h3, h7⟩ := hb
   have hin : ∀ y ∈ l, inr k y := fun y hy => by obtain ⟨j, hj⟩ := List.getElem?_of_mem hy; exact (h7 j y hj).2
   cases hn : p.nl
   ·exact ⟨some ⟨p.b, p.s, none⟩, p.cap, by simp [h1], by omega, hin, .inr ⟨_, _, rfl, fun i y hy => hr.holds _ _ _ (h7 i y hy).1⟩⟩
   ·have hcap := h3 hn
    have : l = [] := List.length_eq_zero_iff.1 (by omega)
    subst this
    exact ⟨none, 0, by simp, by simp, hin, .inl ⟨rfl, rfl, rfl⟩⟩
  ·cases h
 ·rename_i id lo hi
  obtain ⟨p, hp, a, e, ha, he, hae, hep, hv⟩ := hv
  have hb := hr.blk id p hp
  rw [hB id (by simp [qG])] at hb
  have key : ∀ (k' : IntKind) (l' : List Int), p.len = l'.length → p.len ≤ p.cap → (p.nl = true → p.cap = 0) → (∀ (j : Nat) x, l'[j]? = some x → w.cell? ⟨p.b, p.s + j, none⟩ = some (.int k' x) ∧ inr k' x) →
    ∃ a cap, v = .slice a (qU l' lo hi).length cap ∧ (qU l' lo hi).length ≤ cap ∧ (∀ y ∈ qU l' lo hi, inr k' y) ∧
    ((a = none ∧ qU l' lo hi = [] ∧ cap = 0) ∨ ∃ b o, (a = some ⟨b, o, none⟩) ∧ ∀ (i : Nat) y, (qU l' lo hi)[i]? = some y → w.cell? ⟨b, o + i, none⟩ = some (.int k' y)) := by
   intro k' l' h1 h2 h3 h7
   have hpc : qU l' lo hi = (l'.take e).drop a := by
    unfold qU
    subst ha he
    cases lo <;> cases hi <;> simp [h1]
   have hlen : (qU l' lo hi).length = e - a := by rw [hpc]; simp; omega
   have hin : ∀ y ∈ qU l' lo hi, inr k' y := fun y hy => by
    rw [hpc] at hy
    obtain ⟨j, hj⟩ := List.getElem?_of_mem (List.mem_of_mem_take (List.mem_of_mem_drop hy))
    exact (h7 j y hj).2
   rcases hv with ⟨hn, rfl⟩ | ⟨hn, s', c', rfl, hc1, hc2, hs1, hs2⟩
   ·have hcap := h3 hn
    have h0 : (qU l' lo hi).length = 0 := by omega
    exact ⟨none, 0, by rw [h0], by omega, hin, .inl ⟨rfl, List.length_eq_zero_iff.1 h0, rfl⟩⟩
   ·refine ⟨_, c', by rw [hlen], by omega, hin, .inr ⟨_, _, rfl, fun i y hy => ?_⟩⟩
    have hi' : i < e - a := by have := (List.getElem?_eq_some_iff.1 hy).1; omega
    rw [hpc, List.getElem?_drop, List.getElem?_take, if_pos (by omega)] at hy
    have := (h7 _ _ hy).1
    rw [hs1 (by omega), Nat.add_assoc]
    exact this
  split at h
  ·rename_i k' l' t hBid
   cases h
   rw [hBid] at hb
   obtain ⟨h1, h2, h3, h4, h5, h6, h7⟩ := hb
   exact key _ _ h1 h2 (fun hn => (h3 hn).2) h7
  ·rename_i k' l' hBid
   cases h
   rw [hBid] at hb
   obtain ⟨h1, h2, h3, h7⟩ := hb
   exact key _ _ h1 h2 h3 (fun j x hx => ⟨hr.holds _ _ _ (h7 j x hx).1, (h7 j x hx).2⟩)
  ·cases h
 ·cases h
  obtain rfl : v = .slice none 0 0 := hv
  exact ⟨none, 0, rfl, Nat.le_refl _, by simp, .inl ⟨rfl, rfl, rfl⟩⟩
 ·cases h
end
section
variable {C : Cfg} {P : Program} {g : Operand → V} {B : Nat → Blk} {nx : Nat} {dr : Bool} {dst : Option Tmp} {ty : TypeId} {pos : String} {after : Array Edge} {guard : Option (Nat × Bool)} {R : Type} {r : R} {K : KV R}
theorem qhH {x : Operand} (h : ql C g B nx dr ⟨dst, .move x, ty, pos, after, guard⟩ K = some r) :
  ∃ X U n', K X U n' = some r ∧ qh C P g B nx dr ⟨dst, .move x, ty, pos, after, guard⟩ X U n' :=
 ⟨_, _, _, h, qh.pure fun M φ B' w ρ hi => ⟨ρ x, rfl, qgm (hi.args x (by simp [Op.operands]))⟩⟩
theorem qhp {x : Operand} (h : ql C g B nx dr ⟨dst, .assign x, ty, pos, after, guard⟩ K = some r) :
  ∃ X U n', K X U n' = some r ∧ qh C P g B nx dr ⟨dst, .assign x, ty, pos, after, guard⟩ X U n' :=
 ⟨_, _, _, h, qh.pure fun M φ B' w ρ hi => ⟨ρ x, rfl, qgm (hi.args x (by simp [Op.operands]))⟩⟩
theorem qhK {c a b : Operand} (h : ql C g B nx dr ⟨dst, .pick c a b, ty, pos, after, guard⟩ K = some r) :
  ∃ X U n', K X U n' = some r ∧ qh C P g B nx dr ⟨dst, .pick c a b, ty, pos, after, guard⟩ X U n' := by
 have yes : (∀ M φ B' w ρ, qP C P g B dr ⟨dst, .pick c a b, ty, pos, after, guard⟩ M φ B' w ρ → ρ c = .bool true) →
   qh C P g B nx dr ⟨dst, .pick c a b, ty, pos, after, guard⟩ (g a) [] nx := fun hc => qh.pure fun M φ B' w ρ hi =>
  ⟨ρ a, by simp [execOp, hc M φ B' w ρ hi, asBool], hi.args a (by simp [Op.operands])⟩
 have no : (∀ M φ B' w ρ, qP C P g B dr ⟨dst, .pick c a b, ty, pos, after, guard⟩ M φ B' w ρ → ρ c = .bool false) →
   qh C P g B nx dr ⟨dst, .pick c a b, ty, pos, after, guard⟩ (g b) [] nx := fun hc => qh.pure fun M φ B' w ρ hi =>
  ⟨ρ b, by simp [execOp, hc M φ B' w ρ hi, asBool], hi.args b (by simp [Op.operands])⟩
 have cv : ∀ {M φ B' w ρ}, qP C P g B dr ⟨dst, .pick c a b, ty, pos, after, guard⟩ M φ B' w ρ → RV M φ (ρ c) (g c) := fun hi => hi.args c (by simp [Op.operands])
 simp only [ql] at h
 split at h
 ·rename_i hc
  exact ⟨_, _, _, h, yes fun M φ B' w ρ hi => by have := cv hi; rw [hc] at this; exact this⟩
 ·rename_i hc
  exact ⟨_, _, _, h, no fun M φ B' w ρ hi => by have := cv hi; rw [hc] at this; exact this⟩
 ·rename_i x hc
  split at h
  ·rename_i hx
   exact ⟨_, _, _, h, yes fun M φ B' w ρ hi => by have := cv hi; rw [hc, hx] at this; exact this⟩
  ·rename_i hx
   exact ⟨_, _, _, h, no fun M φ B' w ρ hi => by have := cv hi; rw [hc, eq_false_of_ne_true hx] at this; exact this⟩
 ·rename_i p hp hc
  split at h
  ·rename_i hx
   exact ⟨_, _, _, h, yes fun M φ B' w ρ hi => by have := cv hi; rw [hc] at this; exact this.trans (by rw [decide_eq_true hx])⟩
  ·rename_i hx
   exact ⟨_, _, _, h, no fun M φ B' w ρ hi => by have := cv hi; rw [hc] at this; exact this.trans (by rw [decide_eq_false hx])⟩
 ·cases h
theorem qe8 {P : Program} {T : Nat → Option TI} {M : Mem} {φ : Plc} {w : World} (hT : TOk P T) {E : Nat → V → V → Option Bool} {D : Nat}
  (hE : ∀ t x y r a b, E t x y = some r → RA M φ a x → RA M φ b y → (Op.equalIn D t a b).run P w = .ok r w) {l m : List V} {xs ys : Array Value}
  (hx : xs.size = l.length) (gx : ∀ (j : Nat) y, l[j]? = some y → ∃ u, xs[j]? = some u ∧ RL M φ u y) (hy : ys.size = m.length) (gy : ∀ (j : Nat) y, m[j]? = some y → ∃ u, ys[j]? = some u ∧ RL M φ u y) :
  ∀ (fs : List (Nat × Nat)) (gs : List Field) (r : Bool), dOk.fsOk fs gs = true → (∀ g ∈ gs, g.name ≠ "_") → qcW T E l m fs = some r → (Op.eqFields D xs ys gs).run P w = .ok r w
 | [], [], r, _, _, h => by cases h; rfl
 | [], _ :: _, r, hf, _, _ => by cases hf
 | _ :: _, [], r, hf, _, _ => by cases hf
 | (o, t) :: fs, g :: gs, r, hf, hn, h => by
  simp only [dOk.fsOk, Bool.and_eq_true] at hf
  obtain ⟨⟨f1, f2⟩, f3⟩ := hf
  obtain rfl := qu f1
  obtain rfl := qu f2
  obtain ⟨ti, hti, h⟩ := qi h
  obtain ⟨x, hxx, h⟩ := qi h
  obtain ⟨y, hyy, h⟩ := qi h
  obtain ⟨p, hp, h⟩ := qi h
  obtain ⟨q, hq, h⟩ := qi h
  cases h
  obtain ⟨I⟩ := qM (hT _ _ hti)
  obtain ⟨a, ha, ra⟩ := qdi (w := w) I hxx hx gx
  obtain ⟨b, hb, rb⟩ := qdi (w := w) I hyy hy gy
  have e := hE _ x y p a b hp ra rb
  have ih := qe8 hT hE hx gx hy gy fs gs q f3 (fun g' hg' => hn g' (by simp [hg'])) hq
  simp only [Op.eqFields, if_pos (hn g (by simp)), Sem.run_bind, ha, hb, e, Result.andThen_ok]
  cases p
  ·rfl
  ·simpa using ih
theorem qd0 {P : Program} {T : Nat → Option TI} {M : Mem} {φ : Plc} {w : World} (hT : TOk P T) : ∀ (d D : Nat), d ≤ D → ∀ (t : Nat) (x y : V) (r : Bool) (a b : Value), eqT T d t x y = some r → RA M φ a x → RA M φ b y → (Op.equalIn D t a b).run P w = .ok r w
 | 0, _, _, _, _, _, _, _, _, h, _, _ => by cases h
 | d + 1, 0, hD, _, _, _, _, _, _, _, _, _ => by omega
 | d + 1, D + 1, hD, t, x, y, r, a, b, h, ra, rb => by
  obtain ⟨ti, hti, h'⟩ := qi h
  clear h
  obtain ⟨I⟩ := qM (hT _ _ hti)
  split at h'
  ·rename_i k0 k n k' n' hd
   obtain ⟨hk, h⟩ := qf h'
   clear h'
   obtain rfl := qE hk
   cases h
   obtain ⟨rfl, _⟩ := ra
   obtain ⟨rfl, _⟩ := rb
   have hdd : ∃ k1, I.d = .int k1 := by
    have := I.hk
    rw [hd] at this
    cases e : I.d <;> rw [e] at this <;> first | exact ⟨_, rfl⟩ | cases this
   obtain ⟨k1, hk1⟩ := hdd
   simp only [Op.equalIn, Sem.run_bind, I.run_und, hk1, Result.andThen_ok, if_true]
   rfl
  ·rename_i fs l m hd
   obtain ⟨hz, h⟩ := qf h'
   clear h'
   obtain ⟨xs, rfl, hx, gx⟩ := ra
   obtain ⟨ys, rfl, hy, gy⟩ := rb
   have hdd : ∃ gs, I.d = .struct gs := by
    have := I.hk
    rw [hd] at this
    cases e : I.d <;> rw [e] at this <;> first | exact ⟨_, rfl⟩ | cases this
   obtain ⟨gs, hgs⟩ := hdd
   have hfs := I.hk
   rw [hd, hgs] at hfs
   have hu : P.underlying t = some (.struct gs) := by rw [I.hd, hgs]
   have hf : P.fieldsOf t = gs := by simp [Program.fieldsOf, hu]
   have hes := I.hes fs hd hz
   unfold qcX at hes
   simp only [Bool.and_eq_true, Bool.not_eq_true', List.all_eq_true, bne_iff_ne, ne_eq] at hes
   rw [run_equalIn_struct w D t xs ys (by rw [hf]; exact hu) hes.1.1, hf]
   rw [hf] at hes
   exact qe8 hT (fun t x y r a b h1 h2 h3 => qd0 hT d D (by omega) t x y r a b h1 h2 h3) hx gx hy gy fs gs.toList r hfs hes.2 h
  ·cases h'
theorem qeR {P : Program} {T : Nat → Option TI} {w : World} (hT : TOk P T) {d t : Nat} {l m : List V} {r : Bool} (h : eqT T d t (.agg l) (.agg m) = some r) : P.eqGuardType P.depth t = false := by
 cases d with
 | zero => cases h
 | succ d =>
  obtain ⟨ti, hti, h'⟩ := qi h
  clear h
  obtain ⟨I⟩ := qM (hT _ _ hti)
  cases hd : ti.d with
  | struct fs =>
   rw [hd] at h'
   obtain ⟨hz, h⟩ := qf (show bc (scs ti.zs) (qcW T (eqT T d) l m fs) none = some r from h')
   have hes := I.hes fs hd hz
   unfold qcX at hes
   simp only [Bool.and_eq_true, Bool.not_eq_true'] at hes
   exact hes.1.2
  | _ => rw [hd] at h'; cases h'
theorem qgD {P : Program} {C : Cfg} {M : Mem} {φ : Plc} {w : World} (hT : TOk P C.T) {op : BinOp} {t : Nat} {x y : Operand} {V1 V2 : V} {b : Bool} (h : qdI C op t V1 V2 = some b) {v1 v2 : Value} (r1 : RV M φ v1 V1) (r2 : RV M φ v2 V2) :
  (do eqGuard op t x y v1 v2; Go.binOp op t v1 v2 : Sem Value).run P w = .ok (.bool b) w := by
 unfold qdI at h
 split at h
 ·rename_i l m
  have g := qeR (w := w) hT h
  have e := qd0 (w := w) hT 5 Op.maxDepth (by decide) t _ _ _ _ _ h (show RA M φ v1 (.agg l) from r1) (show RA M φ v2 (.agg m) from r2)
  obtain ⟨xs, rfl, _⟩ := (show RA M φ v1 (.agg l) from r1)
  obtain ⟨ys, rfl, _⟩ := (show RA M φ v2 (.agg m) from r2)
  simp [eqGuard, Go.binOp, Op.equal, e, g]
 ·rename_i l m
  obtain ⟨q, hq, h⟩ := qi h
  cases h
  have g := qeR (w := w) hT hq
  have e := qd0 (w := w) hT 5 Op.maxDepth (by decide) t _ _ _ _ _ hq (show RA M φ v1 (.agg l) from r1) (show RA M φ v2 (.agg m) from r2)
  obtain ⟨xs, rfl, _⟩ := (show RA M φ v1 (.agg l) from r1)
  obtain ⟨ys, rfl, _⟩ := (show RA M φ v2 (.agg m) from r2)
  simp [eqGuard, Go.binOp, Op.equal, e, g]
 ·cases h
theorem qhq {op : BinOp} {t yt : TypeId} {x y : Operand} (hT : TOk P C.T) (hg : ∀ c, g (.const c) = qaq c) (h : ql C g B nx dr ⟨dst, .binOp op t x y yt, ty, pos, after, guard⟩ K = some r) :
  ∃ X U n', K X U n' = some r ∧ qh C P g B nx dr ⟨dst, .binOp op t x y yt, ty, pos, after, guard⟩ X U n' := by
 simp only [ql] at h
 split at h
 ·rename_i b hb
  refine ⟨_, _, _, h, qh.pure fun M φ B' w ρ hi => ?_⟩
  have e := qgD (w := w) (x := x) (y := y) hT hb (hi.args x (by simp [Op.operands])) (hi.args y (by simp [Op.operands]))
  refine ⟨.bool b, ?_, rfl⟩
  simp only [execOp]
  rw [Sem.run_bind, e]
  rfl
 split at h
 ·rename_i b hb
  refine ⟨_, _, _, h, qh.pure fun M φ B' w ρ hi => ?_⟩
  obtain ⟨v, e, hv⟩ := qhW (w := w) (x := x) (y := y) hT hb (hi.args x (by simp [Op.operands])) (hi.args y (by simp [Op.operands]))
  refine ⟨v, ?_, hv⟩
  simp only [execOp]
  rw [Sem.run_bind, e]
  rfl
 obtain ⟨X, hX, hh⟩ := qgL (x := x) h (fun c hc => by rw [hc, hg])
 refine ⟨_, _, _, hX, qh.pure fun M φ B' w ρ hi => ?_⟩
 obtain ⟨v, e, hv⟩ := hh (w := w) hT (hi.args x (by simp [Op.operands])) (hi.args y (by simp [Op.operands]))
 refine ⟨v, ?_, hv⟩
 simp only [execOp]
 rw [Sem.run_bind, e]
 rfl
theorem qhO {op : UnOp} {t : TypeId} {x : Operand} (h : ql C g B nx dr ⟨dst, .unOp op t x, ty, pos, after, guard⟩ K = some r) :
  ∃ X U n', K X U n' = some r ∧ qh C P g B nx dr ⟨dst, .unOp op t x, ty, pos, after, guard⟩ X U n' := by
 have cv : ∀ {M φ B' w ρ}, qP C P g B dr ⟨dst, .unOp op t x, ty, pos, after, guard⟩ M φ B' w ρ → RV M φ (ρ x) (g x) := fun hi => hi.args x (by simp [Op.operands])
 have go : ∀ {X : V}, K X [] nx = some r → (∀ {M : Mem} {φ : Plc} {w : World} {v : Value}, RV M φ v (g x) → ∃ u, (Op.unary op v).run P w = .ok u w ∧ RV M φ u X) →
   ∃ X U n', K X U n' = some r ∧ qh C P g B nx dr ⟨dst, .unOp op t x, ty, pos, after, guard⟩ X U n' := fun hK hv =>
  ⟨_, _, _, hK, qh.pure fun M φ B' w ρ hi => let ⟨u, e, hu⟩ := hv (w := w) (cv hi); ⟨u, by simp only [execOp]; rw [Sem.run_bind, e]; rfl, hu⟩⟩
 simp only [ql] at h
 split at h
 ·rename_i k n hx
  refine go h fun {M φ w v} hv => ?_
  rw [hx] at hv
  obtain ⟨rfl, hk⟩ := hv
  exact ⟨.int k (k.wrap (0 - n)), rfl, by rw [qbk, Int.zero_sub], qbM _ _⟩
 ·rename_i k n hx
  refine go h fun {M φ w v} hv => ?_
  rw [hx] at hv
  obtain ⟨rfl, hk⟩ := hv
  refine ⟨.int k (Go.bits .xor k (bc (qbg k) (-1) k.max) n), ?_, rfl, qcf _ _ _ _⟩
  have : (if k.signed = true then (-1 : Int) else k.max) = bc (qbg k) (-1) k.max := by cases k <;> rfl
  show (Op.intBits .xor k (if k.signed = true then (-1 : Int) else k.max) n).run P w = _
  rw [this, intBits_xor]; rfl
 ·rename_i hx
  refine go h fun {M φ w v} hv => ?_
  rw [hx] at hv
  obtain rfl : v = .bool true := hv
  exact ⟨_, rfl, rfl⟩
 ·rename_i hx
  refine go h fun {M φ w v} hv => ?_
  rw [hx] at hv
  obtain rfl : v = .bool false := hv
  exact ⟨_, rfl, rfl⟩
 ·rename_i b hx
  refine go h fun {M φ w v} hv => ?_
  rw [hx] at hv
  obtain rfl : v = .bool b := hv
  exact ⟨_, rfl, rfl⟩
 ·rename_i p hp hx
  refine go h fun {M φ w v} hv => ?_
  rw [hx] at hv
  obtain rfl : v = .bool (decide p) := hv
  exact ⟨_, rfl, by show Value.bool _ = Value.bool _; congr 1; by_cases e : p <;> simp [e]⟩
 ·cases h
theorem qhw {x : Operand} {n : Nat} (h : ql C g B nx dr ⟨dst, .extract x n, ty, pos, after, guard⟩ K = some r) :
  ∃ X U n', K X U n' = some r ∧ qh C P g B nx dr ⟨dst, .extract x n, ty, pos, after, guard⟩ X U n' := by
 simp only [ql] at h
 split at h
 ·rename_i l hx
  split at h
  ·rename_i v hl
   refine ⟨_, _, _, h, qh.pure fun M φ B' w ρ hi => ?_⟩
   have hv := hi.args x (by simp [Op.operands])
   rw [hx] at hv
   obtain ⟨a, e, hs, ha⟩ := hv
   obtain ⟨u, hu, hr⟩ := ha n v hl
   exact ⟨u, by simp only [execOp, e, Instr.extract, hu]; rfl, hr.rv⟩
  ·cases h
 ·cases h
theorem qhx {t : TypeId} {x : Operand} {f : Nat} (hT : TOk P C.T) (h : ql C g B nx dr ⟨dst, .field t x f, ty, pos, after, guard⟩ K = some r) :
  ∃ X U n', K X U n' = some r ∧ qh C P g B nx dr ⟨dst, .field t x f, ty, pos, after, guard⟩ X U n' := by
 simp only [ql] at h
 split at h
 ·rename_i l fo ti hx hf
  split at h
  ·rename_i v hp
   refine ⟨_, _, _, h, qh.pure fun M φ B' w ρ hi => ?_⟩
   have hv := hi.args x (by simp [Op.operands])
   rw [hx] at hv
   obtain ⟨a, e, hs, ha⟩ := hv
   obtain ⟨gs, fd, h1, h2, h3, ⟨I⟩⟩ := qcY hT hf
   obtain ⟨u, hu, hr⟩ := qdi (w := w) I hp hs ha
   refine ⟨u, ?_, hr.rv⟩
   simp only [execOp, Instr.field, Sem.run_bind, h1, Result.andThen_ok, h2, e, asAgg, Sem.run_pure, h3, hu]
  ·cases h
 ·cases h
theorem qhy {t : TypeId} {x : Operand} {f : Nat} (hT : TOk P C.T) (h : ql C g B nx dr ⟨dst, .fieldAddr t x f, ty, pos, after, guard⟩ K = some r) :
  ∃ X U n', K X U n' = some r ∧ qh C P g B nx dr ⟨dst, .fieldAddr t x f, ty, pos, after, guard⟩ X U n' := by
 simp only [ql] at h
 split at h
 ·rename_i id off fo ti hx hf
  rcases qat h with ⟨_, h⟩ | ⟨hz, h⟩
  ·cases h
  refine ⟨_, _, _, h, qh.pure fun M φ B' w ρ hi => ?_⟩
  have hv := hi.args x (by simp [Op.operands])
  rw [hx] at hv
  obtain ⟨p, hp, e⟩ := hv
  obtain ⟨gs, fd, h1, h2, h3, ⟨I⟩⟩ := qcY hT hf
  refine ⟨.pointer (some ⟨p.b, p.s + (off + fo), none⟩), ?_, p, hp, rfl⟩
  have hne : ti.sz ≠ 0 := fun e => by rw [e] at hz; cases hz
  simp only [execOp, Instr.fieldAt, Sem.run_bind, h1, Result.andThen_ok, h2, e, Instr.sureAddr, Sem.run_pure, fieldPlace, I.run_size, if_neg hne, h3, Addr.add]
  split
  ·rename_i h0; subst h0; rfl
  ·simp [Nat.add_assoc]
 ·rename_i l fo ti hx hf
  rcases qat h with ⟨_, h⟩ | ⟨hz, h⟩
  ·cases h
  refine ⟨_, _, _, h, qh.pure fun M φ B' w ρ hi => ?_⟩
  have hv := hi.args x (by simp [Op.operands])
  rw [hx] at hv
  obtain ⟨b, o, e, hall⟩ := hv
  obtain ⟨gs, fd, h1, h2, h3, ⟨I⟩⟩ := qcY hT hf
  refine ⟨.pointer (some ⟨b, o + fo, none⟩), ?_, b, o + fo, rfl, fun j y hy => ?_⟩
  ·have hne : ti.sz ≠ 0 := fun e => by rw [e] at hz; cases hz
   simp only [execOp, Instr.fieldAt, Sem.run_bind, h1, Result.andThen_ok, h2, e, Instr.sureAddr, Sem.run_pure, fieldPlace, I.run_size, if_neg hne, h3, Addr.add]
   split
   ·rename_i h0; subst h0; rfl
   ·rfl
  ·rw [List.getElem?_drop] at hy
   obtain ⟨u, hu, hr⟩ := hall (fo + j) y hy
   exact ⟨u, by rw [Nat.add_assoc]; exact hu, hr⟩
 ·cases h
theorem qc5 {P : Program} {C : Cfg} {t : Nat} (hT : TOk P C.T) (h : qbX C t = true) : ∀ w : World, (underlying t).run P w = .ok .string w := by
 unfold qbX at h
 split at h
 ·rename_i ti ht
  split at h
  ·rename_i hd
   obtain ⟨I⟩ := qM (hT _ _ ht)
   have hk := I.hk
   rw [hd] at hk
   have : I.d = .string := by cases e : I.d <;> rw [e] at hk <;> first | rfl | simp [dOk] at hk
   intro w
   rw [I.run_und, this]
  ·cases h
 ·cases h
theorem qbB {c : Bool} {i n : Int} {x : Option R} (h : qbc c i n x = some r) (hc : c = true → 0 ≤ i) : 0 ≤ i ∧ i < n ∧ x = some r := by
 unfold qbc at h
 split at h
 ·obtain ⟨a, b⟩ := qx h; exact ⟨hc rfl, a, b⟩
 ·obtain ⟨a, b⟩ := qx h; obtain ⟨c, d⟩ := qx b; exact ⟨a, c, d⟩
theorem qcs {y : Operand} {k : IntKind} {b : Int} (h : qbq y = true) (hg : ∀ c, g (.const c) = qaq c) (hy : g y = .int k b) : 0 ≤ b := by
 unfold qbq at h
 split at h
 ·rw [hg] at hy
  simp only [qaq] at hy
  cases hf : qba _ _ <;> rw [hf] at hy <;> simp at hy
  rw [← hy.2]
  exact Int.natCast_nonneg _
 ·cases h
theorem qfW {te : TI} {l : List V} {i : Int} {F : V → Option R} : ∀ (m j : Nat), qdj te l i F j m = some r → ∃ (k : Nat) (v : V), j ≤ k ∧ k < j + m ∧ i = (k : Int) ∧ qaW te l (k * te.sz) = some v ∧ F v = some r
 | 0, j, h => by cases h
 | m + 1, j, h => by
  unfold qdj at h
  obtain ⟨v, hv, h⟩ := qi h
  split at h
  ·rename_i hi
   exact ⟨j, v, Nat.le_refl _, by omega, hi, hv, h⟩
  ·obtain ⟨k, v', h1, h2, h3⟩ := qfW m (j + 1) h
   exact ⟨k, v', by omega, by omega, h3⟩
theorem qhz {t : TypeId} {x ix : Operand} (hT : TOk P C.T) (hg : ∀ c, g (.const c) = qaq c) (h : ql C g B nx dr ⟨dst, .index t x ix, ty, pos, after, guard⟩ K = some r) :
  ∃ X U n', K X U n' = some r ∧ qh C P g B nx dr ⟨dst, .index t x ix, ty, pos, after, guard⟩ X U n' := by
 simp only [ql] at h
 split at h
 ·rename_i s k i hx hi' hst
  obtain ⟨h0, h1, h⟩ := qbB h (fun hc => qcs hc hg hi')
  refine ⟨_, _, _, h, qh.pure fun M φ B' w ρ hi => ?_⟩
  have hv := hi.args x (by simp [Op.operands])
  have hw := hi.args ix (by simp [Op.operands])
  rw [hx] at hv
  rw [hi'] at hw
  obtain ⟨e2, hk⟩ := hw
  have e1 : ρ x = .string s := hv
  have hlt : i.toNat < s.size := by omega
  refine ⟨.int .u8 (s[i.toNat].toNat), ?_, ?_⟩
  ·simp only [execOp, Instr.index, e1, e2, asIntOf, Sem.run_bind, Sem.run_pure, Result.andThen_ok, qc5 hT hst, if_pos h0]
   have : s[i.toNat]? = some s[i.toNat] := by simp [hlt]
   rw [this]
   rfl
  ·show Value.int .u8 _ = Value.int .u8 _ ∧ inr .u8 _
   unfold bt
   rw [dif_pos hlt]
   exact ⟨rfl, fun _ => Int.natCast_nonneg _⟩
 ·rename_i l k i hx hi' hst
  obtain ⟨ti, hti, h⟩ := qi h
  split at h
  ·rename_i n e hd
   obtain ⟨te, hte, h⟩ := qi h
   obtain ⟨q, v, h1, h2, h3, h4, h⟩ := qfW _ _ h
   refine ⟨_, _, _, h, qh.pure fun M φ B' w ρ hi => ?_⟩
   obtain ⟨I⟩ := qM (hT _ _ hti)
   obtain ⟨J⟩ := qM (hT _ _ hte)
   have hda := I.arr hd
   have hv := hi.args x (by simp [Op.operands])
   have hw := hi.args ix (by simp [Op.operands])
   rw [hx] at hv
   rw [hi'] at hw
   obtain ⟨e2, hk⟩ := hw
   obtain ⟨a, e1, hs, ha⟩ := hv
   obtain ⟨u, hu, hr⟩ := qdi (w := w) J h4 hs ha
   refine ⟨u, ?_, hr.rv⟩
   have hq : (0 : Int) ≤ i ∧ i < (n : Int) := by omega
   have ht : i.toNat = q := by omega
   simp only [execOp, Instr.index, e1, e2, asIntOf, Sem.run_bind, Sem.run_pure, Result.andThen_ok, I.run_und, hda, if_pos hq, J.run_size, ht, hu]
  ·cases h
 ·cases h
end
section
variable {C : Cfg} {P : Program} {g : Operand → V} {B : Nat → Blk} {nx : Nat} {dr : Bool} {dst : Option Tmp} {ty : TypeId} {pos : String} {after : Array Edge} {guard : Option (Nat × Bool)} {R : Type} {r : R} {K : KV R}
theorem qap {g : Operand → V} {o : Oper} {y : Operand} (hy : y ∈ o.op.operands.toList) {id : Nat} (h : id ∈ qG (g y)) : id ∈ qbs g o := by
 unfold qbs
 generalize o.op.operands.toList = l at hy
 induction l with
 | nil => cases hy
 | cons a l ih =>
  simp only [List.map_cons, qd6, List.mem_append]
  cases hy with
  | head => exact .inl h
  | tail _ hy => exact .inr (ih hy)
theorem qbL (hT : TOk P C.T) {t : Nat} {ti : TI} (h : qaE C t = some ti) : ∃ e, (∀ w, (underlying t).run P w = .ok (.slice e) w) ∧ Nonempty (qB P e ti) := by
 unfold qaE at h
 split at h
 ·rename_i e sz wd zs ht
  obtain ⟨I⟩ := qM (hT _ _ ht)
  exact ⟨e, fun w => by rw [I.run_und, I.slice rfl], qM (hT _ _ h)⟩
 ·cases h
theorem qcy (hT : TOk P C.T) {t : Nat} {k : IntKind} (h : qa6 C t = some k) : ∃ e ti, qaE C t = some ti ∧ ti.d = .int k ∧ (∀ w, (underlying t).run P w = .ok (.slice e) w) ∧ Nonempty (qB P e ti) := by
 have h0 := h
 unfold qa6 at h
 split at h
 ·rename_i e sz wd zs ht
  split at h
  ·rename_i k' sz' wd' zs' hte
   cases h
   obtain ⟨I⟩ := qM (hT _ _ ht)
   refine ⟨e, _, ?_, rfl, fun w => by rw [I.run_und, I.slice rfl], qM (hT _ _ hte)⟩
   unfold qaE
   rw [ht]
   exact hte
  ·cases h
 ·cases h
theorem qhF {x y : Operand} {tys : Array TypeId} (h : ql C g B nx dr ⟨dst, .call ⟨.builtin .max, #[x, y], tys⟩, ty, pos, after, guard⟩ K = some r) :
  ∃ X U n', K X U n' = some r ∧ qh C P g B nx dr ⟨dst, .call ⟨.builtin .max, #[x, y], tys⟩, ty, pos, after, guard⟩ X U n' := by
 simp only [ql] at h
 split at h
 ·rename_i k a k' b hx hy
  have hk := (qf h).1
  obtain rfl := qE hk
  have h := (qf h).2
  refine ⟨_, _, _, h, qh.pure fun M φ B' w ρ hi => ?_⟩
  have hv := hi.args x (by simp [Op.operands, Call.operands])
  have hw := hi.args y (by simp [Op.operands, Call.operands])
  rw [hx] at hv
  rw [hy] at hw
  obtain ⟨e1, i1⟩ := hv
  obtain ⟨e2, i2⟩ := hw
  refine ⟨.int k (mx a b), ?_, rfl, by unfold mx; split <;> assumption⟩
  simp [execOp, resolve, e1, e2, invoke, builtin, Builtin.max_, Builtin.max2, mx]
 ·cases h
theorem qhG {x y : Operand} {tys : Array TypeId} (h : ql C g B nx dr ⟨dst, .call ⟨.builtin .min, #[x, y], tys⟩, ty, pos, after, guard⟩ K = some r) :
  ∃ X U n', K X U n' = some r ∧ qh C P g B nx dr ⟨dst, .call ⟨.builtin .min, #[x, y], tys⟩, ty, pos, after, guard⟩ X U n' := by
 simp only [ql] at h
 split at h
 ·rename_i k a k' b hx hy
  have hk := (qf h).1
  obtain rfl := qE hk
  have h := (qf h).2
  refine ⟨_, _, _, h, qh.pure fun M φ B' w ρ hi => ?_⟩
  have hv := hi.args x (by simp [Op.operands, Call.operands])
  have hw := hi.args y (by simp [Op.operands, Call.operands])
  rw [hx] at hv
  rw [hy] at hw
  obtain ⟨e1, i1⟩ := hv
  obtain ⟨e2, i2⟩ := hw
  refine ⟨.int k (mn a b), ?_, rfl, by unfold mn; split <;> assumption⟩
  simp [execOp, resolve, e1, e2, invoke, builtin, Builtin.min_, Builtin.min2, mn]
 ·cases h
theorem qc4 {α : Type u} {x : Option α} (h : x.isSome = true) : ∃ a, x = some a := Option.isSome_iff_exists.1 h
theorem qg9 {t : Nat} {tys : List Nat} {s : ByteArray} (w : World) (hu : ∀ w, (underlying t).run P w = .ok .string w) (ρ : Operand → Value) (x : Operand) (hx : ρ x = .string s) :
  (execOp ρ ⟨dst, .call ⟨.builtin .len, #[x], (t :: tys).toArray⟩, ty, pos, after, guard⟩).run P w = .ok (.value (goInt s.size)) w := by
 simp [execOp, resolve, invoke, builtin, Builtin.len_, hu, hx]
theorem qc8 {t e : Nat} {tys : List Nat} {a : Option Addr} {n cap : Nat} (w : World) (hu : ∀ w, (underlying t).run P w = .ok (.slice e) w) (ρ : Operand → Value) (x : Operand) (hx : ρ x = .slice a n cap) :
  (execOp ρ ⟨dst, .call ⟨.builtin .len, #[x], (t :: tys).toArray⟩, ty, pos, after, guard⟩).run P w = .ok (.value (goInt n)) w := by
 simp [execOp, resolve, invoke, builtin, Builtin.len_, hu, hx]
theorem qbb (n : Int) : inr .i64 n := fun h => by cases h
theorem qhB {x : Operand} {t : Nat} {tys : List Nat} (hT : TOk P C.T) (h : ql C g B nx dr ⟨dst, .call ⟨.builtin .len, #[x], (t :: tys).toArray⟩, ty, pos, after, guard⟩ K = some r) :
  ∃ X U n', K X U n' = some r ∧ qh C P g B nx dr ⟨dst, .call ⟨.builtin .len, #[x], (t :: tys).toArray⟩, ty, pos, after, guard⟩ X U n' := by
 have cv : ∀ {M φ B' w ρ}, qP C P g B dr ⟨dst, .call ⟨.builtin .len, #[x], (t :: tys).toArray⟩, ty, pos, after, guard⟩ M φ B' w ρ → RV M φ (ρ x) (g x) := fun hi => hi.args x (by simp [Op.operands, Call.operands])
 simp only [ql] at h
 split at h
 ·rename_i s hx
  obtain ⟨ht, h⟩ := qf h
  refine ⟨_, _, _, h, qh.pure fun M φ B' w ρ hi => ?_⟩
  have hv := cv hi
  rw [hx] at hv
  exact ⟨_, qg9 w (qc5 hT ht) ρ x hv, rfl, qbb _⟩
 ·rename_i ks l hx
  obtain ⟨ht, h⟩ := qf h
  obtain ⟨ti, ht⟩ := qc4 ht
  obtain ⟨e, he, _⟩ := qbL hT ht
  refine ⟨_, _, _, h, qh.pure fun M φ B' w ρ hi => ?_⟩
  have hv := cv hi
  rw [hx] at hv
  rcases hv with ⟨hv, rfl⟩ | ⟨b, o, cap, hv, _⟩
  ·exact ⟨_, qc8 w he ρ x hv, rfl, qbb _⟩
  ·exact ⟨_, qc8 w he ρ x hv, rfl, qbb _⟩
 ·rename_i hx
  obtain ⟨ht, h⟩ := qf h
  obtain ⟨ti, ht⟩ := qc4 ht
  obtain ⟨e, he, _⟩ := qbL hT ht
  refine ⟨_, _, _, h, qh.pure fun M φ B' w ρ hi => ?_⟩
  have hv := cv hi
  rw [hx] at hv
  exact ⟨_, qc8 w he ρ x hv, rfl, qbb _⟩
 ·split at h
  ·rename_i k l hrow
   obtain ⟨ht, h⟩ := qf h
   obtain ⟨ti, ht⟩ := qc4 ht
   obtain ⟨e, he, _⟩ := qbL hT ht
   refine ⟨_, _, _, h, qh.pure fun M φ B' w ρ hi => ?_⟩
   obtain ⟨a, cap, hv, _⟩ := qeD hrow (cv hi) hi.rel (fun id hid => hi.agree id (qap (by simp [Op.operands, Call.operands]) hid))
   exact ⟨_, qc8 w he ρ x hv, rfl, qbb _⟩
  ·cases h
theorem qhJ {x : Operand} (h : ql C g B nx dr ⟨dst, .nilCheck x, ty, pos, after, guard⟩ K = some r) :
  ∃ X U n', K X U n' = some r ∧ qh C P g B nx dr ⟨dst, .nilCheck x, ty, pos, after, guard⟩ X U n' := by
 simp only [ql] at h
 split at h
 ·rename_i id off hx
  refine ⟨_, _, _, h, qh.pure fun M φ B' w ρ hi => ?_⟩
  have hv := hi.args x (by simp [Op.operands])
  rw [hx] at hv
  obtain ⟨p, hp, e⟩ := hv
  exact ⟨_, by simp only [execOp, e]; rfl, p, hp, rfl⟩
 ·cases h
end
section
variable {C : Cfg} {P : Program} {g : Operand → V} {B : Nat → Blk} {nx : Nat} {dr : Bool} {dst : Option Tmp} {ty : TypeId} {pos : String} {after : Array Edge} {guard : Option (Nat × Bool)} {R : Type} {r : R} {K : KV R}
def qaG (o : Option Value) (dflt n : Nat) : Prop := (o = none ∧ n = dflt) ∨ ∃ k i, o = some (.int k i) ∧ 0 ≤ i ∧ i.toNat = n
theorem qb2 {t e : Nat} {ti : TI} {w : World} (hu : ∀ w, (underlying t).run P w = .ok (.slice e) w) (I : qB P e ti) (h1 : ti.sz = 1) {a : Option Addr} {len cap L H : Nat} {lo hi : Option Value}
  (hlo : qaG lo 0 L) (hhi : qaG hi len H) (hLH : L ≤ H) (hH : H ≤ cap) :
  (Instr.sliceAt t (.slice a len cap) lo hi none).run P w = .ok (.slice (if cap = L then a else a.map (·.add L)) (H - L) (cap - L)) w := by
 have b1 : ∀ (y c : Nat) (x : Value) k i (code : BoundsCode), x = .int k i → 0 ≤ i → i.toNat = c → c ≤ y → (Instr.sliceBound x y code).run P w = .ok c w := by
  intro y c x k i code hx h0 hc hy
  subst hx
  unfold Instr.sliceBound
  simp only [asIntOf, Sem.run_bind, Sem.run_pure, Result.andThen_ok]
  rw [if_pos ⟨h0, by omega⟩]
  simp [hc]
 unfold Instr.sliceAt
 simp only [Sem.run_bind, hu, Result.andThen_ok]
 unfold Instr.slice
 simp only [Sem.run_bind, hu, Result.andThen_ok, I.run_size, h1]
 unfold Instr.sliceBounds
 rcases hlo with ⟨rfl, rfl⟩ | ⟨k, i, rfl, hi0, hiL⟩ <;> rcases hhi with ⟨rfl, rfl⟩ | ⟨k', i', rfl, hi0', hiH⟩
 ·simp only [Sem.run_bind, Sem.run_pure, Result.andThen_ok, Nat.mul_one]
 ·simp only [Sem.run_bind, Sem.run_pure, Result.andThen_ok, Nat.mul_one, b1 _ _ _ _ _ _ rfl hi0' hiH hH]
 ·simp only [Sem.run_bind, Sem.run_pure, Result.andThen_ok, Nat.mul_one, b1 _ _ _ _ _ _ rfl hi0 hiL hLH]
 ·simp only [Sem.run_bind, Sem.run_pure, Result.andThen_ok, Nat.mul_one, b1 _ _ _ _ _ _ rfl hi0' hiH hH, b1 _ _ _ _ _ _ rfl hi0 hiL hLH]
theorem qfD {k : IntKind} : ∀ {n : Nat} {zs : List Z}, qc2 k n zs = true → zs = List.replicate n (.int k)
 | 0, [], _ => rfl
 | n + 1, .int k' :: r, h => by
  simp only [qc2, Bool.and_eq_true] at h
  rw [qfD h.2, ← qE h.1]
  rfl
 | 0, _ :: _, h => by cases h
 | _ + 1, [], h => by cases h
 | _ + 1, .bool :: _, h => by cases h
 | _ + 1, .str :: _, h => by cases h
 | _ + 1, .slice _ :: _, h => by cases h
 | _ + 1, .ptr :: _, h => by cases h
theorem qdN (hT : TOk P C.T) {t n : Nat} {k : IntKind} (h : qce C t = some (n, k)) : ∃ ti e eti, C.T t = some ti ∧ Nonempty (qB P t ti) ∧ 0 < n ∧ ti.zs = List.replicate n (.int k) ∧ (∀ w, (underlying t).run P w = .ok (.array n e) w) ∧ (Nonempty (qB P e eti) ∧ eti.sz = 1) := by
 unfold qce at h
 split at h
 case h_2 => cases h
 rename_i n' e zs sz wd hti
 split at h
 case h_2 => cases h
 rename_i k' sz' wd' zs' hte
 obtain ⟨hb, h⟩ := qf h
 cases h
 simp only [Bool.and_eq_true] at hb
 obtain ⟨I⟩ := qM (hT _ _ hti)
 obtain ⟨J⟩ := qM (hT _ _ hte)
 have hd : I.d = .array n e := by
  have := I.hk
  revert this
  cases I.d <;> intro h <;> first | (cases h; done) | skip
  simp only [dOk, Bool.and_eq_true] at h
  rw [qu h.1, qu h.2]
 refine ⟨_, e, _, hti, ⟨I⟩, by simpa using hb.1, qfD hb.2, fun w => by rw [I.run_und, hd], ⟨J⟩, ?_⟩
 have := J.hzi k rfl
 have h2 := (qb3 (M := fun _ _ => none) (φ := fun _ => none) J.hzs).1
 rw [this] at h2
 have := J.hzn
 simp at h2
 omega
theorem qif {t e n : Nat} {eti : TI} {w : World} (hu : ∀ w, (underlying t).run P w = .ok (.array n e) w) (hI : Nonempty (qB P e eti) ∧ eti.sz = 1) {b o L H : Nat} {lo hi : Option Value}
  (hlo : qaG lo 0 L) (hhi : qaG hi n H) (hLH : L ≤ H) (hH : H ≤ n) :
  (Instr.sliceAt t (.pointer (some ⟨b, o, none⟩)) lo hi none).run P w = .ok (.slice (some (if n = L then ⟨b, o, none⟩ else (⟨b, o, none⟩ : Addr).add L)) (H - L) (n - L)) w := by
 obtain ⟨⟨I⟩, h1⟩ := hI
 have b1 : ∀ (y c : Nat) (x : Value) k i (code : BoundsCode), x = .int k i → 0 ≤ i → i.toNat = c → c ≤ y → (Instr.sliceBound x y code).run P w = .ok c w := by
  intro y c x k i code hx h0 hc hy
  subst hx
  unfold Instr.sliceBound
  simp only [asIntOf, Sem.run_bind, Sem.run_pure, Result.andThen_ok]
  rw [if_pos ⟨h0, by omega⟩]
  simp [hc]
 unfold Instr.sliceAt
 simp only [Sem.run_bind, hu, Result.andThen_ok, Instr.sureAddr, Sem.run_pure]
 unfold Instr.sliceBounds
 rcases hlo with ⟨rfl, rfl⟩ | ⟨k, i, rfl, hi0, hiL⟩ <;> rcases hhi with ⟨rfl, rfl⟩ | ⟨k', i', rfl, hi0', hiH⟩
 ·simp only [Sem.run_bind, Sem.run_pure, Result.andThen_ok, I.run_size, h1, Nat.mul_one]
 ·simp only [Sem.run_bind, Sem.run_pure, Result.andThen_ok, I.run_size, h1, Nat.mul_one, b1 _ _ _ _ _ _ rfl hi0' hiH hH]
 ·simp only [Sem.run_bind, Sem.run_pure, Result.andThen_ok, I.run_size, h1, Nat.mul_one, b1 _ _ _ _ _ _ rfl hi0 hiL hLH]
 ·simp only [Sem.run_bind, Sem.run_pure, Result.andThen_ok, I.run_size, h1, Nat.mul_one, b1 _ _ _ _ _ _ rfl hi0' hiH hH, b1 _ _ _ _ _ _ rfl hi0 hiL hLH]
theorem qgX (s : ByteArray) : s.extract 0 s.size = s := by
 apply ByteArray.ext
 simp
theorem qig {t : Nat} {w : World} (hu : ∀ w, (underlying t).run P w = .ok .string w) {s : ByteArray} {L H : Nat} {lo hi : Option Value}
  (hlo : qaG lo 0 L) (hhi : qaG hi s.size H) (hLH : L ≤ H) (hH : H ≤ s.size) : (Instr.sliceAt t (.string s) lo hi none).run P w = .ok (.string (s.extract L H)) w := by
 have b1 : ∀ (y c : Nat) (x : Value) k i (code : BoundsCode), x = .int k i → 0 ≤ i → i.toNat = c → c ≤ y → (Instr.sliceBound x y code).run P w = .ok c w := by
  intro y c x k i code hx h0 hc hy
  subst hx
  unfold Instr.sliceBound
  simp only [asIntOf, Sem.run_bind, Sem.run_pure, Result.andThen_ok]
  rw [if_pos ⟨h0, by omega⟩]
  simp [hc]
 unfold Instr.sliceAt
 simp only [Sem.run_bind, hu, Result.andThen_ok]
 unfold Instr.slice
 simp only [Sem.run_bind, hu, Result.andThen_ok, Option.isSome, Bool.false_eq_true, if_false]
 unfold Instr.sliceBounds
 rcases hlo with ⟨rfl, rfl⟩ | ⟨k, i, rfl, hi0, hiL⟩ <;> rcases hhi with ⟨rfl, rfl⟩ | ⟨k', i', rfl, hi0', hiH⟩
 ·simp only [Sem.run_bind, Sem.run_pure, Result.andThen_ok]
 ·simp only [Sem.run_bind, Sem.run_pure, Result.andThen_ok, b1 _ _ _ _ _ _ rfl hi0' hiH hH]
 ·simp only [Sem.run_bind, Sem.run_pure, Result.andThen_ok, b1 _ _ _ _ _ _ rfl hi0 hiL hLH]
 ·simp only [Sem.run_bind, Sem.run_pure, Result.andThen_ok, b1 _ _ _ _ _ _ rfl hi0' hiH hH, b1 _ _ _ _ _ _ rfl hi0 hiL hLH]
theorem qbe {x : Option Operand} (h : ql.optI g x = some none) : x = none := by
 unfold ql.optI at h
 split at h
 ·rfl
 ·split at h <;> simp at h
theorem qaB {x : Option Operand} {n : Int} (h : ql.optI g x = some (some n)) : ∃ y k, x = some y ∧ g y = .int k n := by
 unfold ql.optI at h
 split at h
 ·simp at h
 ·rename_i y
  split at h
  ·rename_i k m hg
   simp at h
   subst h
   exact ⟨y, k, rfl, hg⟩
  ·simp at h
theorem qgC (a : Addr) : a.add 0 = a := by simp [Addr.add]
theorem qa1 (b o n : Nat) : (⟨b, o, none⟩ : Addr).add n = ⟨b, o + n, none⟩ := by
 unfold Addr.add; split
 ·rename_i h; subst h; rfl
 ·rfl
def qb7 (p : Pl) (n : Nat) : Prop := p.len = n ∧ p.len ≤ p.cap ∧ (p.nl = true → p.cap = 0)
theorem qew {M : Mem} {φ : Plc} {w : World} {p : Pl} {k : IntKind} {l : List Int} {t : Bool} (h : RB M φ w p (.ints k l t)) : qb7 p l.length := by
 obtain ⟨h1, h2, h3, _⟩ := h; exact ⟨h1, h2, fun hn => (h3 hn).2⟩
theorem qev {M : Mem} {φ : Plc} {w : World} {p : Pl} {k : IntKind} {l : List Int} (h : RB M φ w p (.ice k l)) : qb7 p l.length := by
 obtain ⟨h1, h2, h3, _⟩ := h; exact ⟨h1, h2, h3⟩
theorem qfS {t e : Nat} {ti : TI} {x : Operand} {o : Oper} {loO hiO : Option Operand} {M : Mem} {φ : Plc} {w : World} {ρ : Operand → Value} {id : Nat} {p : Pl} {lo hi : Option Int}
  (he : ∀ w, (underlying t).run P w = .ok (.slice e) w) (I : qB P e ti) (h1 : ti.sz = 1)
  (ex : ∀ {ρ : Operand → Value} {w : World} {v : Value}, (Instr.sliceAt t (ρ x) (loO.map ρ) (hiO.map ρ) none).run P w = .ok v w → (execOp ρ o).run P w = .ok (.value v) w)
  (hφ : φ id = some p) (hv : ρ x = p.val) {L H : Nat} (hlo : qaG (loO.map ρ) 0 L) (hhi : qaG (hiO.map ρ) p.len H) (hLH : L ≤ H) (hH : H ≤ p.len) (hcap : p.len ≤ p.cap) (hnl : p.nl = true → p.cap = 0)
  (eL : L = lo.elim 0 Int.toNat) (eH : H = hi.elim p.len Int.toNat) :
  ∃ v, (execOp ρ o).run P w = .ok (.value v) w ∧ RV M φ v (.osl id lo hi) := by
 unfold Pl.val at hv
 cases hn : p.nl
 ·rw [hn] at hv
  simp only [Bool.false_eq_true, if_false] at hv
  refine ⟨_, ex (by rw [hv]; exact qb2 he I h1 hlo hhi hLH (by omega)), p, hφ, L, H, eL, eH, hLH, hH, .inr ⟨hn, ?_⟩⟩
  by_cases hc : p.cap = L
  ·exact ⟨p.s, p.cap - L, by rw [if_pos hc], by omega, fun h => by subst h; simp at eL; omega, fun h => by omega, fun _ => rfl⟩
  ·exact ⟨p.s + L, p.cap - L, by rw [if_neg hc]; simp [qa1], by omega, fun h => by subst h; simp at eL; omega, fun _ => rfl, fun h => by subst h; simp at eL; omega⟩
 ·rw [hn] at hv
  simp only [if_true] at hv
  have h0 := hnl hn
  have hl : p.len = 0 := by omega
  rw [hl] at hhi
  refine ⟨_, ex (by rw [hv]; exact qb2 he I h1 hlo hhi hLH (by omega)), p, hφ, L, H, eL, eH, hLH, hH, .inl ⟨hn, ?_⟩⟩
  have e1 : L = 0 := by omega
  have e2 : H = 0 := by omega
  subst e1 e2
  simp
theorem qhM {t : TypeId} {x : Operand} {lo hi : Option Operand} (hT : TOk P C.T) (h : ql C g B nx dr ⟨dst, .slice t x lo hi none, ty, pos, after, guard⟩ K = some r) :
  ∃ X U n', K X U n' = some r ∧ qh C P g B nx dr ⟨dst, .slice t x lo hi none, ty, pos, after, guard⟩ X U n' := by
 have cv : ∀ {M φ B' w ρ}, qP C P g B dr ⟨dst, .slice t x lo hi none, ty, pos, after, guard⟩ M φ B' w ρ → RV M φ (ρ x) (g x) := fun hi => hi.args x (by simp [Op.operands])
 have cb : ∀ {M φ B' w ρ} {y : Operand} {k n} (_ : qP C P g B dr ⟨dst, .slice t x lo hi none, ty, pos, after, guard⟩ M φ B' w ρ), (lo = some y ∨ hi = some y) → g y = .int k n → ρ y = .int k n := by
  intro M φ B' w ρ y k n hin hy hg
  have := hin.args y (by rcases hy with rfl | rfl <;> simp [Op.operands])
  rw [hg] at this
  exact this.1
 have ex : ∀ {ρ : Operand → Value} {w : World} {v : Value}, (Instr.sliceAt t (ρ x) (lo.map ρ) (hi.map ρ) none).run P w = .ok v w →
   (execOp ρ ⟨dst, .slice t x lo hi none, ty, pos, after, guard⟩).run P w = .ok (.value v) w := by
  intro ρ w v hv
  simp only [execOp, Option.map_none, Sem.run_bind, hv]
  rfl
 simp only [ql] at h
 rcases qat h with ⟨hstr, hq⟩ | ⟨_, hq⟩
 ·have hu := qc5 hT hstr
  have run : ∀ {M φ B' w ρ} {s : ByteArray} {L H : Nat}, qP C P g B dr ⟨dst, .slice t x lo hi none, ty, pos, after, guard⟩ M φ B' w ρ → g x = .str s → qaG (lo.map ρ) 0 L → qaG (hi.map ρ) s.size H → L ≤ H → H ≤ s.size →
    ∃ v, (execOp ρ ⟨dst, .slice t x lo hi none, ty, pos, after, guard⟩).run P w = .ok (.value v) w ∧ RV M φ v (.str (s.extract L H)) := fun {M φ B' w ρ s L H} hin hx h1 h2 h3 h4 => by
   have hv := cv hin
   rw [hx] at hv
   have hv : ρ x = .string s := hv
   exact ⟨_, ex (by rw [hv]; exact qig hu h1 h2 h3 h4), rfl⟩
  clear h
  split at hq
  case h_2 => cases hq
  rename_i s hx
  unfold qgg at hq
  split at hq
  ·rename_i hlo hhi
   obtain rfl := qbe hlo
   obtain rfl := qbe hhi
   refine ⟨_, _, _, hq, qh.pure fun M φ B' w ρ hin => ?_⟩
   have := run hin hx (.inl ⟨rfl, rfl⟩) (.inl ⟨rfl, rfl⟩) (Nat.zero_le _) (Nat.le_refl _)
   rwa [qgX] at this
  ·rename_i hh hlo hhi
   obtain rfl := qbe hlo
   obtain ⟨y, k', rfl, hy⟩ := qaB hhi
   obtain ⟨h0, hq1⟩ := qx hq
   obtain ⟨h1, hq3⟩ := qx hq1
   refine ⟨_, _, _, hq3, qh.pure fun M φ B' w ρ hin => ?_⟩
   exact run hin hx (.inl ⟨rfl, rfl⟩) (.inr ⟨k', hh, by simp [cb hin (.inr rfl) hy], h0, rfl⟩) (Nat.zero_le _) (by omega)
  ·rename_i aa hlo hhi
   obtain rfl := qbe hhi
   obtain ⟨y, k', rfl, hy⟩ := qaB hlo
   obtain ⟨h0, hq1⟩ := qx hq
   obtain ⟨h1, hq3⟩ := qx hq1
   refine ⟨_, _, _, hq3, qh.pure fun M φ B' w ρ hin => ?_⟩
   exact run hin hx (.inr ⟨k', aa, by simp [cb hin (.inl rfl) hy], h0, rfl⟩) (.inl ⟨rfl, rfl⟩) (by omega) (Nat.le_refl _)
  ·rename_i aa hh hlo hhi
   obtain ⟨y, k', rfl, hy⟩ := qaB hhi
   obtain ⟨z, kz, rfl, hz⟩ := qaB hlo
   obtain ⟨h0, hq1⟩ := qx hq
   obtain ⟨h1, hq2⟩ := qx hq1
   obtain ⟨h2, hq3⟩ := qx hq2
   refine ⟨_, _, _, hq3, qh.pure fun M φ B' w ρ hin => ?_⟩
   exact run hin hx (.inr ⟨kz, aa, by simp [cb hin (.inl rfl) hz], h0, rfl⟩) (.inr ⟨k', hh, by simp [cb hin (.inr rfl) hy], by omega, rfl⟩) (by omega) (by omega)
  ·cases hq
 clear h
 split at hq
 ·rename_i n k harr
  obtain ⟨ti, e, eti, hti, hd, hn0, hz, hue, hI⟩ := qdN hT harr
  have fin : ∀ {id : Nat} {k2 : IntKind} {l : List Int} {tl : Bool} {M φ B' w ρ}, qP C P g B dr ⟨dst, .slice t x lo hi none, ty, pos, after, guard⟩ M φ B' w ρ → g x = .ptr id 0 → B id = .ints k2 l tl → n = l.length → ∀ (L H : Nat) (a : Int) (h' : Option Int), qaG (lo.map ρ) 0 L → qaG (hi.map ρ) n H → L ≤ H → H ≤ n →
    L = a.toNat → H = h'.elim l.length Int.toNat → ∃ v, (execOp ρ ⟨dst, .slice t x lo hi none, ty, pos, after, guard⟩).run P w = .ok (.value v) w ∧ RV M φ v (.osl id (some a) h') := fun {id k2 l tl M φ B' w ρ} hin hx hB hl L H a h' hlo hhi hLH hH eL eH => by
   have hv := cv hin
   rw [hx] at hv
   obtain ⟨p, hp, hv⟩ := hv
   have hb2 := hin.rel.blk _ _ hp
   rw [hin.agree id (qap (y := x) (by simp [Op.operands]) (by rw [hx]; simp [qG])), hB] at hb2
   obtain ⟨b1, b2, b3, _⟩ := hb2
   have hnl : p.nl = false := by
    cases hn : p.nl
    ·rfl
    ·have := (b3 hn).2
     omega
   refine ⟨_, ex (by rw [hv]; exact qif hue hI hlo hhi hLH hH), p, hp, L, H, eL, by rw [eH, b1], hLH, by omega, .inr ⟨hnl, ?_⟩⟩
   by_cases hc : n = L
   ·exact ⟨p.s, n - L, by rw [if_pos hc]; rfl, by omega, fun h => (by cases h), fun h => by omega, fun h => (by cases h)⟩
   ·exact ⟨p.s + L, n - L, by rw [if_neg hc, Nat.add_zero, qa1], by omega, fun h => (by cases h), fun _ => rfl, fun h => (by cases h)⟩
  split at hq
  ·rename_i id a hx hlo hhi
   obtain rfl := qbe hhi
   obtain ⟨y, k', rfl, hy⟩ := qaB hlo
   split at hq
   case h_2 => cases hq
   rename_i k2 l tl hB
   obtain ⟨hb, hq0⟩ := qf hq
   obtain ⟨hl, hq1⟩ := qx hq0
   obtain ⟨h0, hq2⟩ := qx hq1
   obtain ⟨hle, hq3⟩ := qx hq2
   refine ⟨_, _, _, hq3, qh.pure fun M φ B' w ρ hin => ?_⟩
   exact fin hin hx hB hl a.toNat n a none (.inr ⟨k', a, by simp [cb hin (.inl rfl) hy], h0, rfl⟩) (.inl ⟨rfl, rfl⟩) (by omega) (Nat.le_refl _) rfl hl
  ·rename_i id aa hh hx hlo hhi
   obtain ⟨y, k', rfl, hy⟩ := qaB hhi
   obtain ⟨z, kz, rfl, hz⟩ := qaB hlo
   split at hq
   case h_2 => cases hq
   rename_i k2 l tl hB
   obtain ⟨hb, hq0⟩ := qf hq
   obtain ⟨hl, hq1⟩ := qx hq0
   obtain ⟨h0, hq2⟩ := qx hq1
   obtain ⟨h01, hq4⟩ := qx hq2
   obtain ⟨hle, hq3⟩ := qx hq4
   refine ⟨_, _, _, hq3, qh.pure fun M φ B' w ρ hin => ?_⟩
   exact fin hin hx hB hl aa.toNat hh.toNat aa (some hh) (.inr ⟨kz, aa, by simp [cb hin (.inl rfl) hz], h0, rfl⟩) (.inr ⟨k', hh, by simp [cb hin (.inr rfl) hy], by omega, rfl⟩) (by omega) (by omega) rfl rfl
  ·rename_i id hh hx hlo hhi
   obtain rfl := qbe hlo
   obtain ⟨y, k', rfl, hy⟩ := qaB hhi
   split at hq
   case h_2 => cases hq
   rename_i k2 l tl hB
   obtain ⟨hb, hq0⟩ := qf hq
   obtain ⟨hl, hq1⟩ := qx hq0
   obtain ⟨h0, hq2⟩ := qx hq1
   obtain ⟨hle, hq3⟩ := qx hq2
   refine ⟨_, _, _, hq3, qh.pure fun M φ B' w ρ hin => ?_⟩
   exact fin hin hx hB hl 0 hh.toNat 0 (some hh) (.inl ⟨rfl, rfl⟩) (.inr ⟨k', hh, by simp [cb hin (.inr rfl) hy], h0, rfl⟩) (Nat.zero_le _) (by omega) rfl rfl
  ·cases hq
 have h := hq
 clear hq
 have hu := (qf h).1
 have h' := (qf h).2
 clear h
 unfold ql.isUnit at hu
 split at hu
 case h_2 => cases hu
 rename_i ti hel
 obtain ⟨e, he, ⟨I⟩⟩ := qbL hT hel
 have h1 : ti.sz = 1 := qu hu
 split at h'
 ·rename_i k l hh hx hlo hhi
  obtain rfl := qbe hlo
  obtain ⟨y, k', rfl, hy⟩ := qaB hhi
  obtain ⟨h0, h1'⟩ := qx h'
  obtain ⟨hle, h⟩ := qx h1'
  refine ⟨_, _, _, h, qh.pure fun M φ B' w ρ hin => ?_⟩
  have hv := cv hin
  rw [hx] at hv
  have hye := cb hin (.inr rfl) hy
  have hle' : hh.toNat ≤ l.length := by omega
  have hlen : (l.take hh.toNat).length = hh.toNat := by simp; omega
  obtain ⟨hr, ⟨hv, rfl⟩ | ⟨b, o, cap, hv, hcap, hm⟩⟩ := hv
  ·refine ⟨_, ex (by rw [hv]; exact qb2 he I h1 (L := 0) (H := hh.toNat) (.inl ⟨rfl, rfl⟩) (.inr ⟨k', hh, by simp [hye], h0, rfl⟩) (by omega) (by simpa using hle')), ?_⟩
   simp at hle'
   refine ⟨by simp, .inl ⟨by simp [hle'], by simp⟩⟩
  ·refine ⟨_, ex (by rw [hv]; exact qb2 he I h1 (L := 0) (H := hh.toNat) (.inl ⟨rfl, rfl⟩) (.inr ⟨k', hh, by simp [hye], h0, rfl⟩) (by omega) (by omega)), ?_⟩
   refine ⟨fun z hz => hr z (List.mem_of_mem_take hz), .inr ⟨b, o, cap, ?_, by omega, fun i z hz => ?_⟩⟩
   ·rw [hlen]; split <;> simp [qgC]
   ·rw [List.getElem?_take] at hz
    split at hz
    ·exact hm i z hz
    ·cases hz
 ·rename_i k l a0 hx hlo hhi
  obtain rfl := qbe hhi
  obtain ⟨y, k', rfl, hy⟩ := qaB hlo
  obtain ⟨h0, h1'⟩ := qx h'
  obtain ⟨hle, h⟩ := qx h1'
  refine ⟨_, _, _, h, qh.pure fun M φ B' w ρ hin => ?_⟩
  have hv := cv hin
  rw [hx] at hv
  have hye := cb hin (.inl rfl) hy
  have hle' : a0.toNat ≤ l.length := by omega
  obtain ⟨hr, ⟨hv, rfl⟩ | ⟨b, o, cap, hv, hcap, hm⟩⟩ := hv
  ·refine ⟨_, ex (by rw [hv]; exact qb2 he I h1 (L := a0.toNat) (H := 0) (.inr ⟨k', a0, by simp [hye], h0, rfl⟩) (.inl ⟨rfl, rfl⟩) (by simpa using hle') (by omega)), ?_⟩
   simp at hle'
   refine ⟨by simp, .inl ⟨by simp [hle'], by simp⟩⟩
  ·refine ⟨_, ex (by rw [hv]; exact qb2 he I h1 (L := a0.toNat) (H := l.length) (.inr ⟨k', a0, by simp [hye], h0, rfl⟩) (.inl ⟨rfl, rfl⟩) hle' hcap), ?_⟩
   refine ⟨fun z hz => hr z (List.mem_of_mem_drop hz), .inr ?_⟩
   by_cases hc : cap = a0.toNat
   ·refine ⟨b, o, cap - a0.toNat, by rw [if_pos hc]; simp, by simp; omega, fun i z hz => ?_⟩
    rw [List.getElem?_drop] at hz
    have := (List.getElem?_eq_some_iff.1 hz).1
    omega
   ·refine ⟨b, o + a0.toNat, cap - a0.toNat, by rw [if_neg hc]; simp [qa1], by simp; omega, fun i z hz => ?_⟩
    rw [List.getElem?_drop] at hz
    rw [Nat.add_assoc]
    exact hm _ z hz
 ·rename_i id hh hx hlo hhi
  obtain rfl := qbe hlo
  obtain ⟨y, k', rfl, hy⟩ := qaB hhi
  have own : ∀ {l : List Int}, 0 ≤ hh → hh ≤ (l.length : Int) → (∀ {M φ w p} {B' : Nat → Blk}, Rel M φ B' w → φ id = some p → B' id = B id → qb7 p l.length) →
    qh C P g B nx dr ⟨dst, .slice t x none (some y) none, ty, pos, after, guard⟩ (.osl id none (some hh)) [] nx := by
   intro l h0 hle hp
   refine qh.pure fun M φ B' w ρ hin => ?_
   have hv := cv hin
   rw [hx] at hv
   obtain ⟨p, hφ, hv⟩ := hv
   obtain ⟨hp1, hp2, hp3⟩ := hp hin.rel hφ (hin.agree id (qap (y := x) (by simp [Op.operands]) (by rw [hx]; simp [qG])))
   have hye := cb hin (.inr rfl) hy
   exact qfS he I h1 ex hφ hv (lo := none) (hi := some hh) (.inl ⟨rfl, rfl⟩) (.inr ⟨k', hh, by simp [hye], h0, rfl⟩) (by omega) (by simp; omega) hp2 hp3 rfl rfl
  split at h'
  ·rename_i k l tl hB
   obtain ⟨h0, h1'⟩ := qx h'
   obtain ⟨hle, h⟩ := qx h1'
   exact ⟨_, _, _, h, own h0 hle fun hr hφ hb => qew (by have := hr.blk _ _ hφ; rwa [hb, hB] at this)⟩
  ·rename_i k l hB
   obtain ⟨h0, h1'⟩ := qx h'
   obtain ⟨hle, h⟩ := qx h1'
   exact ⟨_, _, _, h, own h0 hle fun hr hφ hb => qev (by have := hr.blk _ _ hφ; rwa [hb, hB] at this)⟩
  ·cases h'
 ·rename_i id aa hh hx hlo hhi
  obtain ⟨y, k', rfl, hy⟩ := qaB hhi
  obtain ⟨z, kz, rfl, hz⟩ := qaB hlo
  split at h'
  ·rename_i k l tl hB
   obtain ⟨h0, h1'⟩ := qx h'
   obtain ⟨h01, h2'⟩ := qx h1'
   obtain ⟨hle, h⟩ := qx h2'
   refine ⟨_, _, _, h, qh.pure fun M φ B' w ρ hin => ?_⟩
   have hv := cv hin
   rw [hx] at hv
   obtain ⟨p, hφ, hv⟩ := hv
   have hb := hin.rel.blk _ _ hφ
   rw [hin.agree id (qap (y := x) (by simp [Op.operands]) (by rw [hx]; simp [qG])), hB] at hb
   obtain ⟨hp1, hp2, hp3⟩ := qew hb
   have hye := cb hin (.inr rfl) hy
   have hze := cb hin (.inl rfl) hz
   exact qfS he I h1 ex hφ hv (lo := some aa) (hi := some hh) (.inr ⟨kz, aa, by simp [hze], h0, rfl⟩) (.inr ⟨k', hh, by simp [hye], by omega, rfl⟩) (by simp; omega) (by simp; omega) hp2 hp3 rfl rfl
  ·cases h'
 ·cases h'
end
section
variable {C : Cfg} {P : Program} {g : Operand → V} {B : Nat → Blk} {nx : Nat} {dr : Bool} {dst : Option Tmp} {ty : TypeId} {pos : String} {after : Array Edge} {guard : Option (Nat × Bool)} {R : Type} {r : R} {K : KV R}
theorem qd9 {t e : Nat} {ti : TI} {w : World} (hu : ∀ w, (underlying t).run P w = .ok (.slice e) w) (I : qB P e ti) {b o n cap : Nat} {k : IntKind} {i : Int} (h0 : 0 ≤ i) (hi : i < (n : Int)) :
  (Instr.indexAt t (.slice (some ⟨b, o, none⟩) n cap) (.int k i)).run P w = .ok (.pointer (some ⟨b, o + i.toNat * ti.sz, none⟩)) w := by
 unfold Instr.indexAt
 simp only [asIntOf, Sem.run_bind, Sem.run_pure, Result.andThen_ok, hu]
 rw [if_pos ⟨h0, hi⟩]
 simp only [Sem.run_bind, I.run_size, Result.andThen_ok, Sem.run_pure, qa1]
theorem qhX {ks : List LK} {l : List (Tp ks)} {i : Int} (h0 : 0 ≤ i) (hi : i < (l.length : Int)) : l[i.toNat]? = some (rdT ks l i) := by
 unfold rdT
 have : i.toNat < l.length := by omega
 simp [List.getElem?_eq_getElem this, List.getD]
theorem qeA {l : List Int} {i : Int} (h0 : 0 ≤ i) (hi : i < (l.length : Int)) : l[i.toNat]? = some (rd l i) := by
 unfold rd
 have : i.toNat < l.length := by omega
 simp [List.getElem?_eq_getElem this, List.getD]
theorem qhA {t : TypeId} {x ix : Operand} (hT : TOk P C.T) (hg : ∀ c, g (.const c) = qaq c) (h : ql C g B nx dr ⟨dst, .indexAddr t x ix, ty, pos, after, guard⟩ K = some r) :
  ∃ X U n', K X U n' = some r ∧ qh C P g B nx dr ⟨dst, .indexAddr t x ix, ty, pos, after, guard⟩ X U n' := by
 have cv : ∀ {M φ B' w ρ}, qP C P g B dr ⟨dst, .indexAddr t x ix, ty, pos, after, guard⟩ M φ B' w ρ → RV M φ (ρ x) (g x) := fun hi => hi.args x (by simp [Op.operands])
 have ci : ∀ {M φ B' w ρ}, qP C P g B dr ⟨dst, .indexAddr t x ix, ty, pos, after, guard⟩ M φ B' w ρ → RV M φ (ρ ix) (g ix) := fun hi => hi.args ix (by simp [Op.operands])
 simp only [ql] at h
 split at h
 ·rename_i n k harr
  obtain ⟨ti, e, eti, hti, hd, hn0, hz, hue, hI⟩ := qdN hT harr
  split at h
  ·rename_i gl kx i hx hix
   obtain ⟨h0, hlt, hq1⟩ := qbB h (fun hn => qcs hn hg hix)
   obtain ⟨htab, hq2⟩ := qx hq1
   refine ⟨_, _, _, hq2, qh.pure fun M φ B' w ρ hi => ?_⟩
   have hv := cv hi
   rw [hx] at hv
   have hv : ρ x = .pointer (some ⟨gl, 0, none⟩) := hv
   have hii := ci hi
   rw [hix] at hii
   obtain ⟨hie, _⟩ := hii
   obtain ⟨⟨I⟩, h1⟩ := hI
   unfold qgh at htab
   split at htab
   case h_2 => cases htab
   rename_i k' m hM
   simp only [Bool.and_eq_true] at htab
   obtain rfl := qE htab.1
   refine ⟨.pointer (some ⟨gl, i.toNat, none⟩), ?_, gl, i.toNat, rfl, fun j y hy => ?_⟩
   ·simp only [execOp, hv, hie, Instr.indexAt, asIntOf, Sem.run_bind, Sem.run_pure, Result.andThen_ok, hue, Instr.sureAddr]
    rw [if_pos ⟨h0, hlt⟩]
    simp only [Sem.run_bind, I.run_size, Result.andThen_ok, Sem.run_pure, qa1, h1, Nat.mul_one, Nat.zero_add]
   ·cases j with
    | succ j => simp at hy
    | zero =>
     simp at hy
     subst hy
     refine ⟨_, by rw [Nat.add_zero]; exact hi.glob _ _ _ hM, ?_, ?_⟩
     ·simp only [qeI, hM]
     ·simp only [qeI, hM]; exact qfk htab.2
  case h_3 => cases h
  rename_i id kx i hx hix
  split at h
  case h_2 => cases h
  rename_i k2 l tl hB
  obtain ⟨hb, hq0⟩ := qf h
  obtain ⟨hl, hq1⟩ := qx hq0
  obtain ⟨h0, hlt, h2⟩ := qbB hq1 (fun hn => qcs hn hg hix)
  refine ⟨_, _, _, h2, qh.pure fun M φ B' w ρ hi => ?_⟩
  have hv := cv hi
  rw [hx] at hv
  obtain ⟨p, hp, hv⟩ := hv
  have hii := ci hi
  rw [hix] at hii
  obtain ⟨hie, _⟩ := hii
  have hb2 := hi.rel.blk _ _ hp
  rw [hi.agree id (qap (y := x) (by simp [Op.operands]) (by rw [hx]; simp [qG])), hB] at hb2
  obtain ⟨b1, b2, b3, _⟩ := hb2
  have hnl : p.nl = false := by
   cases hn : p.nl
   ·rfl
   ·have := (b3 hn).2
    omega
  refine ⟨_, ?_, p, hp, hnl, h0, by omega, rfl⟩
  obtain ⟨⟨I⟩, h1⟩ := hI
  simp only [execOp, hv, hie, Instr.indexAt, asIntOf, Sem.run_bind, Sem.run_pure, Result.andThen_ok, hue, Instr.sureAddr]
  rw [if_pos ⟨h0, by rw [hl]; exact hlt⟩]
  simp only [Sem.run_bind, I.run_size, Result.andThen_ok, Sem.run_pure, qa1, h1, Nat.mul_one, Nat.add_zero]
 split at h
 case h_3 => cases h
 case h_2 =>
  rename_i k i hel hix
  unfold qeZ at h
  obtain ⟨ti, hti, h⟩ := qi h
  split at h
  ·rename_i n e id off hd hx
   obtain ⟨te, hte, h⟩ := qi h
   obtain ⟨hb, h⟩ := qf h
   simp only [Bool.and_eq_true, Bool.not_eq_true'] at hb
   obtain ⟨⟨hn, hlt⟩, hz⟩ := hb
   have hlt := Nat.le_of_ble_eq_true hlt
   have h0 := qcs hn hg hix
   refine ⟨_, _, _, h, qh.pure fun M φ B' w ρ hi => ?_⟩
   obtain ⟨I⟩ := qM (hT _ _ hti)
   obtain ⟨J⟩ := qM (hT _ _ hte)
   have hda := I.arr hd
   have hv := cv hi
   rw [hx] at hv
   have hii := ci hi
   rw [hix] at hii
   obtain ⟨hie, _⟩ := hii
   obtain ⟨p, hp, e2⟩ := hv
   refine ⟨.pointer (some ⟨p.b, p.s + (off + i.toNat * te.sz), none⟩), ?_, p, hp, rfl⟩
   simp only [execOp, e2, hie, Instr.indexAt, asIntOf, Sem.run_bind, Sem.run_pure, Result.andThen_ok, I.run_und, hda, Instr.sureAddr]
   rw [if_pos ⟨h0, by omega⟩]
   simp only [Sem.run_bind, J.run_size, Result.andThen_ok, Sem.run_pure, qa1, Nat.add_assoc]
  ·cases h
 rename_i ti k i hel hix
 obtain ⟨e, he, ⟨I⟩⟩ := qbL hT hel
 have hc : qbq ix = true → 0 ≤ i := fun hn => qcs hn hg hix
 unfold qfx at h
 split at h
 ·rename_i k' l hx
  obtain ⟨hz, h1⟩ := qf h
  obtain ⟨h0, hlt, h2⟩ := qbB h1 hc
  refine ⟨_, _, _, h2, qh.pure fun M φ B' w ρ hi => ?_⟩
  have hv := cv hi
  rw [hx] at hv
  have hii := ci hi
  rw [hix] at hii
  obtain ⟨hie, _⟩ := hii
  obtain ⟨hr, ⟨_, rfl⟩ | ⟨b, o, cap, hv, hcap, hm⟩⟩ := hv
  ·simp at hlt; omega
  ·refine ⟨_, by simp only [execOp, hv, hie, Sem.run_bind, qd9 he I h0 hlt]; rfl, b, o + i.toNat * ti.sz, rfl, fun j y hy => ?_⟩
   cases j with
   | succ j => simp at hy
   | zero =>
    simp at hy
    subst hy
    have e1 := qu hz
    exact ⟨_, by rw [← e1]; simpa using hm _ _ (qeA h0 hlt), rfl, hr _ (List.mem_of_getElem? (qeA h0 hlt))⟩
 ·rename_i ks l hx
  obtain ⟨hz, h1⟩ := qf h
  obtain ⟨h0, hlt, h2⟩ := qbB h1 hc
  refine ⟨_, _, _, h2, qh.pure fun M φ B' w ρ hi => ?_⟩
  have hv := cv hi
  rw [hx] at hv
  have hii := ci hi
  rw [hix] at hii
  obtain ⟨hie, _⟩ := hii
  obtain ⟨_, rfl⟩ | ⟨b, o, cap, hv, hcap, hm⟩ := hv
  ·simp at hlt; omega
  ·refine ⟨_, by simp only [execOp, hv, hie, Sem.run_bind, qd9 he I h0 hlt]; rfl, b, o + i.toNat * ti.sz, rfl, fun j y hy => ?_⟩
   have e1 := qu hz
   obtain ⟨u, hu, hr⟩ := hm _ _ (qhX h0 hlt) j y hy
   exact ⟨u, by rw [← e1]; exact hu, hr⟩
 ·rename_i id hx
  have own : ∀ {l : List Int}, 0 ≤ i → i < (l.length : Int) → 1 = ti.sz → (∀ {M φ w p} {B' : Nat → Blk}, Rel M φ B' w → φ id = some p → B' id = B id → qb7 p l.length) →
    qh C P g B nx dr ⟨dst, .indexAddr t x ix, ty, pos, after, guard⟩ (.optr id i) [] nx := by
   intro l h0 hlt hz hp
   refine qh.pure fun M φ B' w ρ hi => ?_
   have hv := cv hi
   rw [hx] at hv
   obtain ⟨p, hφ, hv⟩ := hv
   obtain ⟨hp1, hp2, hp3⟩ := hp hi.rel hφ (hi.agree id (qap (y := x) (by simp [Op.operands]) (by rw [hx]; simp [qG])))
   have hii := ci hi
   rw [hix] at hii
   obtain ⟨hie, _⟩ := hii
   unfold Pl.val at hv
   cases hn : p.nl
   ·rw [hn] at hv
    simp only [Bool.false_eq_true, if_false] at hv
    refine ⟨_, by simp only [execOp, hv, hie, Sem.run_bind, qd9 he I h0 (n := p.len) (by omega)]; rfl, p, hφ, hn, h0, by omega, ?_⟩
    rw [← hz, Nat.mul_one]
   ·have := hp3 hn
    omega
  split at h
  ·rename_i k' l tl hB
   obtain ⟨hz, h1⟩ := qf h
   obtain ⟨h0, hlt, h2⟩ := qbB h1 hc
   exact ⟨_, _, _, h2, own h0 hlt (qu hz) fun hr hφ hb => qew (by have := hr.blk _ _ hφ; rwa [hb, hB] at this)⟩
  ·rename_i k' l hB
   obtain ⟨hz, h1⟩ := qf h
   obtain ⟨h0, hlt, h2⟩ := qbB h1 hc
   exact ⟨_, _, _, h2, own h0 hlt (qu hz) fun hr hφ hb => qev (by have := hr.blk _ _ hφ; rwa [hb, hB] at this)⟩
  ·cases h
 ·cases h
theorem qei {t : Nat} {ti : TI} (I : qB P t ti) {w : World} {b o : Nat} {l : List V} {off : Nat} {x : V} {M : Mem} {φ : Plc} (h : qaW ti l off = some x)
  (hl : ∀ (j : Nat) y, l[j]? = some y → ∃ u, w.cell? ⟨b, o + j, none⟩ = some u ∧ RL M φ u y) :
  ∃ v, (loadVar t ⟨b, o + off, none⟩).run P w = .ok v w ∧ RA M φ v x := by
 unfold qaW at h
 unfold loadVar
 rcases qat h with ⟨hag, h⟩ | ⟨hag, h⟩
 ·obtain ⟨hfit, h⟩ := qf h
  have hfit := Nat.le_of_ble_eq_true hfit
  cases h
  have hd : ∀ j, j < ti.sz → ∃ u, w.cell? ⟨b, o + off + j, none⟩ = some u ∧ ∃ y, l[off + j]? = some y ∧ RL M φ u y := fun j hj => by
   have hlt : off + j < l.length := by omega
   obtain ⟨u, hu, hr⟩ := hl (off + j) l[off + j] (by simp [hlt])
   exact ⟨u, by rw [Nat.add_assoc]; exact hu, _, by simp [hlt], hr⟩
  let f : Nat → Value := fun j => (w.cell? ⟨b, o + off + j, none⟩).getD undef
  have hf : ∀ j, j < ti.sz → w.cell? ((⟨b, o + off, none⟩ : Addr).add j) = some (f j) := fun j hj => by
   obtain ⟨u, hu, _⟩ := hd j hj
   rw [qa1]
   simp [f, hu]
  refine ⟨.agg ((List.range ti.sz).map f).toArray, ?_, _, rfl, by simp; omega, fun j y hy => ?_⟩
  ·simp only [Sem.run_bind, I.run_agg, Result.andThen_ok, hag, if_true, I.run_size, run_loadCells w _ _ f hf]
   rfl
  ·rw [List.getElem?_take] at hy
   split at hy
   ·rename_i hj
    rw [List.getElem?_drop] at hy
    obtain ⟨u, hu, y', hy', hr⟩ := hd j hj
    rw [hy] at hy'
    cases hy'
    exact ⟨f j, by simp [hj], by simp only [f, hu]; exact hr⟩
   ·cases hy
 ·obtain ⟨u, hu, hr⟩ := hl off x h
  refine ⟨u, ?_, ?_⟩
  ·simp only [Sem.run_bind, I.run_agg, Result.andThen_ok, hag, Bool.false_eq_true, if_false, run_load, hu]
  ·have : qaT x = false := by cases x <;> first | rfl | exact hr.elim
   rwa [qbP this]
theorem qhC {t : TypeId} {x : Operand} (hT : TOk P C.T) (h : ql C g B nx dr ⟨dst, .load t x, ty, pos, after, guard⟩ K = some r) :
  ∃ X U n', K X U n' = some r ∧ qh C P g B nx dr ⟨dst, .load t x, ty, pos, after, guard⟩ X U n' := by
 have cv : ∀ {M φ B' w ρ}, qP C P g B dr ⟨dst, .load t x, ty, pos, after, guard⟩ M φ B' w ρ → RV M φ (ρ x) (g x) := fun hi => hi.args x (by simp [Op.operands])
 have ag : ∀ {M φ B' w ρ id}, qP C P g B dr ⟨dst, .load t x, ty, pos, after, guard⟩ M φ B' w ρ → id ∈ qG (g x) → B' id = B id := fun hi hid => hi.agree _ (qap (y := x) (by simp [Op.operands]) hid)
 have ex : ∀ {ρ : Operand → Value} {w : World} {a : Addr} {v : Value}, ρ x = .pointer (some a) → (loadVar t a).run P w = .ok v w →
   (execOp ρ ⟨dst, .load t x, ty, pos, after, guard⟩).run P w = .ok (.value v) w := by
  intro ρ w a v he hv
  simp only [execOp, Instr.loadAt, he, Instr.sureAddr, pure_bind, Sem.run_bind, hv]
  rfl
 simp only [ql] at h
 obtain ⟨ti, hti, h1⟩ := qi h
 obtain ⟨X, hX, h2⟩ := qi h1
 obtain ⟨I⟩ := qM (hT _ _ hti)
 unfold qc9 at hX
 split at hX
 ·rename_i id off hx
  split at hX
  ·rename_i l hB
   refine ⟨_, _, _, h2, qh.pure fun M φ B' w ρ hi => ?_⟩
   have hv := cv hi
   rw [hx] at hv
   obtain ⟨p, hφ, hv⟩ := hv
   have hb := hi.rel.blk _ _ hφ
   rw [ag hi (by rw [hx]; simp [qG]), hB] at hb
   obtain ⟨u, hu, hr⟩ := qei I (b := p.b) (o := p.s) (w := w) hX hb.2.2
   exact ⟨u, ex hv hu, hr.rv⟩
  ·cases hX
 ·rename_i id i hx
  have own : ∀ {k : IntKind} {l : List Int}, X = .int k (rd l i) → ti.ag = false → (∀ {M φ w p} {B' : Nat → Blk}, Rel M φ B' w → φ id = some p → B' id = B id → p.len = l.length ∧ ∀ (j : Nat) y, l[j]? = some y → w.cell? ⟨p.b, p.s + j, none⟩ = some (.int k y) ∧ inr k y) →
    qh C P g B nx dr ⟨dst, .load t x, ty, pos, after, guard⟩ X [] nx := by
   intro k l hXe hag hp
   refine qh.pure fun M φ B' w ρ hi => ?_
   have hv := cv hi
   rw [hx] at hv
   obtain ⟨p, hφ, hn, h0, hlt, hv⟩ := hv
   obtain ⟨hp1, hp2⟩ := hp hi.rel hφ (ag hi (by rw [hx]; simp [qG]))
   have := qeA (l := l) h0 (by omega)
   obtain ⟨hc, hr⟩ := hp2 _ _ this
   refine ⟨_, ex hv ?_, by rw [hXe]; exact ⟨rfl, hr⟩⟩
   unfold loadVar
   simp only [Sem.run_bind, I.run_agg, Result.andThen_ok, hag, Bool.false_eq_true, if_false, run_load, hc]
  split at hX
  ·rename_i k l tl hB
   obtain ⟨hag, hX⟩ := qf hX
   cases hX
   exact ⟨_, _, _, h2, own rfl (by simpa using hag) fun hr hφ hb => by
    have := hr.blk _ _ hφ
    rw [hb, hB] at this
    obtain ⟨h1, _, _, _, _, _, h7⟩ := this
    exact ⟨h1, h7⟩⟩
  ·rename_i k l hB
   obtain ⟨hag, hX⟩ := qf hX
   cases hX
   exact ⟨_, _, _, h2, own rfl (by simpa using hag) fun hr hφ hb => by
    have := hr.blk _ _ hφ
    rw [hb, hB] at this
    obtain ⟨h1, _, _, h7⟩ := this
    exact ⟨h1, fun j y hy => ⟨hr.holds _ _ _ (h7 j y hy).1, (h7 j y hy).2⟩⟩⟩
  ·cases hX
 ·rename_i l hx
  refine ⟨_, _, _, h2, qh.pure fun M φ B' w ρ hi => ?_⟩
  have hv := cv hi
  rw [hx] at hv
  obtain ⟨b, o, hv, hl⟩ := hv
  obtain ⟨u, hu, hr⟩ := qei I (b := b) (o := o) (w := w) (φ := φ) hX (fun j y hy => let ⟨u, a, c⟩ := hl j y hy; ⟨u, hi.rel.holds _ _ _ a, c.rl⟩)
  exact ⟨u, ex hv (by simpa using hu), hr.rv⟩
 ·cases hX
theorem qf6 {M : Mem} {φ : Plc} {v : Value} {x : V} (h : RL M φ v x) (hd : qa3 x = false) : v.cells = #[v] ∧ v.oneCell' = true := by
 cases x with
 | int k n => obtain ⟨rfl, _⟩ := h; exact ⟨rfl, rfl⟩
 | tt => obtain rfl : v = _ := h; exact ⟨rfl, rfl⟩
 | ff => obtain rfl : v = _ := h; exact ⟨rfl, rfl⟩
 | bool b => obtain rfl : v = _ := h; exact ⟨rfl, rfl⟩
 | cnd p i => obtain rfl : v = _ := h; exact ⟨rfl, rfl⟩
 | str s => obtain rfl : v = _ := h; exact ⟨rfl, rfl⟩
 | ints k l => obtain ⟨_, ⟨rfl, _⟩ | ⟨b, o, c, rfl, _⟩⟩ := h <;> exact ⟨rfl, rfl⟩
 | rows ks l => obtain ⟨rfl, _⟩ | ⟨b, o, c, rfl, _⟩ := h <;> exact ⟨rfl, rfl⟩
 | own id => obtain ⟨p, _, rfl⟩ := h; unfold Pl.val; split <;> exact ⟨rfl, rfl⟩
 | osl id lo hi => obtain ⟨p, _, a, e, _, _, _, _, ⟨_, rfl⟩ | ⟨_, s', c', rfl, _⟩⟩ := h <;> exact ⟨rfl, rfl⟩
 | optr id i => obtain ⟨p, _, _, _, _, rfl⟩ := h; exact ⟨rfl, rfl⟩
 | ptr id off => obtain ⟨p, _, rfl⟩ := h; exact ⟨rfl, rfl⟩
 | iptr l => obtain ⟨b, o, rfl, _⟩ := h; exact ⟨rfl, rfl⟩
 | nils k => obtain rfl : v = _ := h; exact ⟨rfl, rfl⟩
 | nilp => obtain rfl : v = _ := h; exact ⟨rfl, rfl⟩
 | fn f => obtain rfl : v = _ := h; exact ⟨rfl, rfl⟩
 | clo f l => obtain ⟨cs, rfl, _⟩ := h; exact ⟨rfl, rfl⟩
 | nili => obtain rfl : v = _ := h; exact ⟨rfl, rfl⟩
 | und => cases hd
 | glob g => obtain rfl : v = _ := h; exact ⟨rfl, rfl⟩
 | dead => cases hd
 | agg l => exact h.elim
 | tup l => exact h.elim
theorem qcg {M : Mem} {φ : Plc} {v : Value} {x : V} (h : RV M φ v x) (hd : qa3 x = false) : v.cells.size = (qad x).length ∧ ∀ (j : Nat) y, (qad x)[j]? = some y → ∃ u, v.cells[j]? = some u ∧ RL M φ u y := by
 have ht : qbD x = false := by cases x <;> first | rfl | cases hd
 rw [qb9 ht] at h
 cases hx : qaT x with
 | false =>
  rw [qbP hx] at h
  have hc := (qf6 h hd).1
  have : qad x = [x] := by cases x <;> first | rfl | cases hx
  rw [hc, this]
  refine ⟨rfl, fun j y hy => ?_⟩
  cases j with
  | zero => simp at hy; subst hy; exact ⟨v, rfl, h⟩
  | succ j => simp at hy
 | true =>
  cases x with
  | agg l => obtain ⟨a, rfl, hs, ha⟩ := h; exact ⟨hs, ha⟩
  | tup l => exact h.elim
  | _ => cases hx
end
def qI (φ : Plc) (n : Nat) (p : Pl) : Plc := fun id => if id = n then some p else φ id
theorem qdq {φ : Plc} {n : Nat} {p : Pl} (h : φ n = none) : qr φ (qI φ n p) := fun id q hq => by
 unfold qI; split
 ·rename_i e; subst e; rw [h] at hq; cases hq
 ·exact hq
theorem qaa {φ : Plc} {n : Nat} {p : Pl} : qI φ n p n = some p := by simp [qI]
theorem qaD {φ : Plc} {n id : Nat} {p : Pl} (h : id ≠ n) : qI φ n p id = φ id := by simp [qI, h]
theorem qar {φ : Plc} {n id : Nat} {p q : Pl} (h : qI φ n p id = some q) : (id = n ∧ q = p) ∨ (id ≠ n ∧ φ id = some q) := by
 unfold qI at h; split at h
 ·cases h; exact .inl ⟨‹_›, rfl⟩
 ·exact .inr ⟨‹_›, h⟩
theorem RB.mono {M M' : Mem} {φ φ' : Plc} {w w' : World} {p : Pl} {b : Blk} (hM : Ext M M') (hφ : qr φ φ') (h : RB M φ w p b)
  (hc : qs b = true → ∀ j v, j < p.c → w.cell? ⟨p.b, p.s + j, none⟩ = some v → w'.cell? ⟨p.b, p.s + j, none⟩ = some v)
  (hi : qw b = true → p.s = 0 → p.c = 1 → ∀ s q, w.heap[p.b]? = some (.stringIter s q) → w'.heap[p.b]? = some (.stringIter s q) := by exact fun _ _ _ _ _ h => h) : RB M' φ' w' p b := by
 cases b with
 | cells l =>
  obtain ⟨h1, h2, h3⟩ := h
  refine ⟨h1, h2, fun j x hx => ?_⟩
  obtain ⟨u, hu, hr⟩ := h3 j x hx
  exact ⟨u, hc rfl j u (by have := (List.getElem?_eq_some_iff.1 hx).1; omega) hu, hr.mono hM hφ⟩
 | ints k l t =>
  obtain ⟨h1, h2, h3, h4, h5, h6, h7⟩ := h
  refine ⟨h1, h2, h3, h4, h5, h6, fun j x hx => ?_⟩
  obtain ⟨hu, hr⟩ := h7 j x hx
  exact ⟨hc rfl j _ (by have := (List.getElem?_eq_some_iff.1 hx).1; omega) hu, hr⟩
 | ice k l => obtain ⟨h1, h2, h3, h7⟩ := h; exact ⟨h1, h2, h3, fun j x hx => ⟨hM _ _ _ (h7 j x hx).1, (h7 j x hx).2⟩⟩
 | iter s q => obtain ⟨h1, h2, h3, h4⟩ := h; exact ⟨h1, h2, h3, hi rfl h1 h2 _ _ h4⟩
 | gone => trivial
structure qt (w w' : World) : Prop where
 os : w'.os = w.os
 tape : w'.tape = w.tape
 output : w'.output = w.output
 size : w.heap.size ≤ w'.heap.size
 block : ∀ k, k < w.heap.size → w'.heap[k]? = w.heap[k]?
theorem qt.cell {w w' : World} (h : qt w w') {b o : Nat} {v : Value} (hv : w.cell? ⟨b, o, none⟩ = some v) : w'.cell? ⟨b, o, none⟩ = some v := by
 rw [← hv]; exact World.cell?_of_block (w := w) (h.block b (qbd hv))
theorem qt.froz {w w' : World} (h : qt w w') {b o : Nat} {v : Value} (hv : w.cell? ⟨b, o, none⟩ = some v) : w'.frozen? ⟨b, o, none⟩ = w.frozen? ⟨b, o, none⟩ :=
 World.frozen?_of_block (w := w) (h.block b (qbd hv))
theorem qt.kp {w w' : World} (h : qt w w') (X : Nat → Nat → Prop) : Kp X w w' :=
 ⟨h.os, h.tape, h.output, h.size, fun k hk _ => h.block k hk, fun _ _ _ hv _ => h.cell hv, fun _ _ _ hv _ => h.froz hv, fun _ _ _ hv _ => by rw [h.block _ (qdc hv)]; exact hv⟩
theorem qt.occ {w w' : World} (h : qt w w') {it : Bool} {b o : Nat} (hu : Occ it w b o) : Occ it w' b o := (h.kp fun _ _ => False).occ hu fun h => h
theorem qt.frz {w w' : World} (h : qt w w') {it : Bool} {b o : Nat} (hu : Occ it w b o) : w'.frozen? ⟨b, o, none⟩ = w.frozen? ⟨b, o, none⟩ := (h.kp fun _ _ => False).frz hu fun h => h
theorem qt.refl (w : World) : qt w w := ⟨rfl, rfl, rfl, Nat.le_refl _, fun _ _ => rfl⟩
theorem qt.drew {w w' : World} (h : qt w w') : qt w w'.drew := ⟨h.os, h.tape, h.output, h.size, h.block⟩
theorem qt.alloc {w w' : World} (h : qt w w') (o : Obj) : qt w (w'.alloc o) :=
 ⟨h.os, h.tape, h.output, by simp; have := h.size; omega, fun k hk => by rw [Below.heap_alloc _ _ _ (by have := h.size; omega)]; exact h.block k hk⟩
theorem Rel.grew {M : Mem} {φ : Plc} {B : Nat → Blk} {w w' : World} (hr : Rel M φ B w) (h : qt w w') : Rel M φ B w' := by
 refine ⟨fun b o v hv => h.cell (hr.holds b o v hv), fun id p hp => (hr.blk id p hp).mono (Ext.refl M) (qr.refl φ) (fun _ j v _ hv => h.cell hv) (fun _ _ _ _ _ hv => by rw [h.block _ (qdc hv)]; exact hv), fun id p hp ha j hj => ?_, hr.dis⟩
 obtain ⟨hu, hf, hm⟩ := hr.own id p hp ha j hj
 exact ⟨h.occ hu, by rw [h.frz hu]; exact hf, hm⟩
theorem Rel.weaken {M : Mem} {φ : Plc} {B B' : Nat → Blk} {w : World} (hr : Rel M φ B w) (h : ∀ id, B' id = B id ∨ B' id = .gone) : Rel M φ B' w := by
 have al : ∀ id, qs (B' id) = true → B' id = B id := fun id ha => by
  rcases h id with e | e
  ·exact e
  ·rw [e] at ha; cases ha
 refine ⟨hr.holds, fun id p hp => ?_, fun id p hp ha => by rw [al id ha]; exact hr.own id p hp (al id ha ▸ ha), fun id id' p p' hne hp hp' ha ha' => hr.dis id id' p p' hne hp hp' (al id ha ▸ ha) (al id' ha' ▸ ha')⟩
 rcases h id with e | e
 ·rw [e]; exact hr.blk id p hp
 ·rw [e]; trivial
theorem qZ {n id : Nat} {b : Blk} {B : Nat → Blk} : qp [(n, b)] B id = if id = n then b else B id := by
 simp only [qp]
 by_cases h : id = n
 ·subst h; simp
 ·have : Nat.beq n id = false := by cases e : Nat.beq n id; rfl; exact absurd (qu e).symm h
  simp [this, h]
theorem qdJ {M : Mem} {φ : Plc} {B : Nat → Blk} {w w1 : World} {nx : Nat} {x : V} {v : Value} {ob : Obj} {p : Pl} {blk : Blk} (hr : Rel M φ B w) (hφ : φ nx = none) (hg : qt w w1)
  (hb : p.b = w1.heap.size) (hocc : ∀ j, j < p.c → Occ (qw blk) (w1.alloc ob) p.b (p.s + j) ∧ (w1.alloc ob).frozen? ⟨p.b, p.s + j, none⟩ = false)
  (hblk : ∀ (φ' : Plc), qr φ φ' → (∀ (b o : Nat) u, w.cell? ⟨b, o, none⟩ = some u → (w1.alloc ob).cell? ⟨b, o, none⟩ = some u) → RB M φ' (w1.alloc ob) p blk)
  (hv : RV M (qI φ nx p) v x) : qX M φ B w x [(nx, blk)] nx (nx + 1) v (w1.alloc ob) := by
 have hg2 : qt w (w1.alloc ob) := hg.alloc _
 have hext := qdq (p := p) hφ
 have hM : ∀ j, M p.b (p.s + j) = none := fun j => by
  cases e : M p.b (p.s + j) with
  | none => rfl
  | some u => have := qbd (hr.holds _ _ _ e); have := hg.size; omega
 have hr' := hr.grew hg2
 have old : ∀ id q, id ≠ nx → φ id = some q → qs (B id) = true → ∀ j, j < q.c → q.b < w.heap.size := fun id q _ hq ha j hj => (hr.own id q hq ha j hj).1.lt
 have hsz := hg.size
 refine ⟨M, qI φ nx p, hv, ⟨hr'.holds, ?_, ?_, ?_⟩, ⟨Ext.refl M, hg2.kp _, ?_, fun _ _ _ h => .inl h⟩, fun id hid => qaD (by omega), hext⟩
 ·intro id q hq
  rw [qZ]
  rcases qar hq with ⟨rfl, rfl⟩ | ⟨hne, hq⟩
  ·rw [if_pos rfl]; exact hblk _ hext (fun b o u hu => hg2.cell hu)
  ·rw [if_neg hne]; exact (hr'.blk id q hq).mono (Ext.refl M) hext (fun _ _ _ _ h => h)
 ·intro id q hq ha
  rw [qZ] at ha ⊢
  rcases qar hq with ⟨rfl, rfl⟩ | ⟨hne, hq⟩
  ·intro j hj
   rw [if_pos rfl]
   exact ⟨(hocc j hj).1, (hocc j hj).2, hM j⟩
  ·rw [if_neg hne] at ha ⊢; exact hr'.own id q hq ha
 ·intro id id' q q' hne hq hq' ha ha' j j' hj hj' hbb
  rw [qZ] at ha ha'
  rcases qar hq with ⟨e1, e2⟩ | ⟨h1, hq1⟩ <;> rcases qar hq' with ⟨e3, e4⟩ | ⟨h2, hq2⟩
  ·exact absurd (e1.trans e3.symm) hne
  ·rw [if_neg h2] at ha'
   have := old id' q' h2 hq2 ha' j' hj'
   subst e2
   omega
  ·rw [if_neg h1] at ha
   have := old id q h1 hq1 ha j hj
   subst e4
   omega
  ·rw [if_neg h1] at ha
   rw [if_neg h2] at ha'
   exact hr.dis id id' q q' hne hq1 hq2 ha ha' j j' hj hj' hbb
 ·rintro b o ⟨id, q, j, hq, ha, hj, rfl, rfl⟩
  rw [qZ] at ha
  rcases qar hq with ⟨rfl, rfl⟩ | ⟨h1, hq⟩
  ·exact .inr (by omega)
  ·rw [if_neg h1] at ha
   exact .inl ⟨id, q, j, hq, ha, hj, rfl, rfl⟩
theorem qdK {M : Mem} {φ : Plc} {B : Nat → Blk} {w w1 : World} {nx : Nat} {x : V} {v : Value} {arr : Array Value} {t : Nat} {p : Pl} {blk : Blk} (hr : Rel M φ B w) (hφ : φ nx = none) (hg : qt w w1)
  (hb : p.b = w1.heap.size) (hs : p.s = 0) (hc : p.c = arr.size)
  (hblk : ∀ (φ' : Plc), qr φ φ' → (∀ (b o : Nat) u, w.cell? ⟨b, o, none⟩ = some u → (w1.alloc (.cells arr t)).cell? ⟨b, o, none⟩ = some u) → RB M φ' (w1.alloc (.cells arr t)) p blk)
  (hv : RV M (qI φ nx p) v x) (hni : qw blk = false := by rfl) : qX M φ B w x [(nx, blk)] nx (nx + 1) v (w1.alloc (.cells arr t)) := by
 refine qdJ hr hφ hg hb (fun j hj => ?_) hblk hv
 rw [hni, hb, hs, Nat.zero_add]
 exact ⟨⟨arr[j]'(by omega), by rw [World.cell?_alloc_new w1 arr t j]; simp [show j < arr.size by omega]⟩, World.frozen?_alloc_new w1 arr t j⟩
section
variable {C : Cfg} {P : Program} {g : Operand → V} {B : Nat → Blk} {nx : Nat} {dr : Bool} {dst : Option Tmp} {ty : TypeId} {pos : String} {after : Array Edge} {guard : Option (Nat × Bool)} {R : Type} {r : R} {K : KV R}
theorem qfM {M : Mem} {φ : Plc} {w : World} {B' : Nat → Blk} {t : Nat} {v : Value} {l : List V} (hr : Rel M φ B' w) (hφ : φ nx = none) (hs : v.cells.size = l.length)
  (hl : ∀ (j : Nat) y, l[j]? = some y → ∃ u, v.cells[j]? = some u ∧ RL M φ u y) :
  qX M φ B' w (.ptr nx 0) [(nx, .cells l)] nx (nx + 1) (.pointer (some ⟨w.heap.size, 0, none⟩)) (w.alloc (.cells v.cells t)) := by
 refine qdK (p := ⟨w.heap.size, 0, v.cells.size, 0, 0, false⟩) hr hφ (qt.refl w) rfl rfl rfl ?_ ?_
 ·intro φ' hφ' _
  refine ⟨rfl, hs, fun j x hx => ?_⟩
  obtain ⟨u, hu, hru⟩ := hl j x hx
  exact ⟨u, by rw [Nat.zero_add]; rw [World.cell?_alloc_new]; exact hu, hru.mono (Ext.refl M) hφ'⟩
 ·exact ⟨_, qaa, rfl⟩
theorem qhn {t : TypeId} (hT : TOk P C.T) (h : ql C g B nx dr ⟨dst, .alloc t, ty, pos, after, guard⟩ K = some r) :
  ∃ X U n', K X U n' = some r ∧ qh C P g B nx dr ⟨dst, .alloc t, ty, pos, after, guard⟩ X U n' := by
 simp only [ql] at h
 split at h
 ·rename_i n k harr
  obtain ⟨ti, e, eti, hti, ⟨I⟩, hn0, hz, hue, hI⟩ := qdN hT harr
  refine ⟨_, _, _, h, Nat.le_succ _, fun M φ B' w ρ hi hf => ?_⟩
  obtain ⟨hlen, hzs⟩ := qb3 (M := M) (φ := φ) I.hzs
  rw [hz] at hlen hzs
  simp only [List.length_replicate] at hlen
  have hsz : I.z.cells.size = n := by simpa using hlen.symm
  unfold qW
  have e : (execOp ρ ⟨dst, .alloc t, ty, pos, after, guard⟩).run P w = .ok (.value (.pointer (some ⟨w.heap.size, 0, none⟩))) (w.alloc (.cells I.z.cells t)) := by
   simp only [execOp, Instr.alloc, Sem.run_bind, I.run_zero, Result.andThen_ok]
   rfl
  rw [e]
  refine qdK (p := ⟨w.heap.size, 0, n, n, n, false⟩) hi.rel (hf nx (Nat.le_refl _) (Nat.lt_succ_self _)) (qt.refl w) rfl rfl hsz.symm (fun φ' _ _ => ?_) ⟨_, qaa, rfl⟩
  refine ⟨by simp, Nat.le_refl _, fun h => (by cases h), fun _ h => (by cases h), fun _ => by simp, by simp, fun j x hx => ?_⟩
  have hj : j < n := by have := (List.getElem?_eq_some_iff.1 hx).1; simpa using this
  rw [List.getElem?_replicate, if_pos hj] at hx
  cases hx
  obtain ⟨u, h1, h2⟩ := hzs j (.int k 0) (by rw [List.map_replicate, List.getElem?_replicate, if_pos hj]; rfl)
  obtain ⟨rfl, h3⟩ := h2
  refine ⟨?_, h3⟩
  simp only [Nat.zero_add]
  rw [World.cell?_alloc_new]
  simpa using h1
 split at h
 ·rename_i ti hti
  obtain ⟨I⟩ := qM (hT _ _ hti)
  refine ⟨_, _, _, h, Nat.le_succ _, fun M φ B' w ρ hi hf => ?_⟩
  obtain ⟨hlen, hz⟩ := qb3 (M := M) (φ := φ) I.hzs
  have := qfM (nx := nx) (t := t) (v := I.z) (l := ti.zs.map Z.v) hi.rel (hf nx (Nat.le_refl _) (Nat.lt_succ_self _)) (by simp [hlen]) (fun j y hy => let ⟨u, a, b⟩ := hz j y hy; ⟨u, by simpa using a, b⟩)
  unfold qW
  have e : (execOp ρ ⟨dst, .alloc t, ty, pos, after, guard⟩).run P w = .ok (.value (.pointer (some ⟨w.heap.size, 0, none⟩))) (w.alloc (.cells I.z.cells t)) := by
   simp only [execOp, Instr.alloc, Sem.run_bind, I.run_zero, Result.andThen_ok]
   rfl
  rw [e]
  exact this
 ·cases h
theorem qg2 {M : Mem} {φ : Plc} {B1 : Nat → Blk} {w : World} {l : List V} {e : Nat} {cs : Array Value} (hr : Rel M φ B1 w) (hget : ∀ (j : Nat) z, l[j]? = some z → ∃ u, cs[j]? = some u ∧ R0 M u z) :
  qX M φ B1 w (.iptr l) [] nx nx (.pointer (some ⟨w.heap.size, 0, none⟩)) (w.alloc (.cells cs e)) := by
 have hg : qt w (w.alloc (.cells cs e)) := (qt.refl w).alloc _
 have hr2 := hr.grew hg
 let M2 : Mem := fun b o => if b = w.heap.size then cs[o]? else M b o
 have hext : Ext M M2 := fun b o v hv => by
  have := qbd (hr.holds b o v hv)
  simp only [M2, if_neg (by omega : ¬ b = w.heap.size)]
  exact hv
 have hne : ∀ b o, b < w.heap.size → M2 b o = M b o := fun b o h => by simp only [M2, if_neg (by omega : ¬ b = w.heap.size)]
 have hrel : Rel M2 φ B1 (w.alloc (.cells cs e)) := by
  refine ⟨fun b o v hv => ?_, fun id p hp => (hr2.blk id p hp).mono hext (qr.refl φ) (fun _ _ _ _ h => h), fun id p hp ha j hj => ?_, hr2.dis⟩
  ·by_cases hb : b = w.heap.size
   ·subst hb
    simp only [M2, if_true] at hv
    rw [World.cell?_alloc_new]
    exact hv
   ·simp only [M2, if_neg hb] at hv
    exact hr2.holds b o v hv
  ·obtain ⟨h1, h2, h3⟩ := hr2.own id p hp ha j hj
   refine ⟨h1, h2, ?_⟩
   rw [hne _ _ (hr.own id p hp ha j hj).1.lt]
   exact h3
 refine ⟨M2, φ, ?_, hrel, ⟨hext, hg.kp _, fun _ _ h => .inl h, fun b o v hv => ?_⟩, fun _ _ => rfl, qr.refl φ⟩
 ·refine ⟨w.heap.size, 0, rfl, fun j x hx => ?_⟩
  obtain ⟨u, hu, hr0⟩ := hget j x hx
  refine ⟨u, ?_, hr0.mono hext⟩
  simp only [M2, if_true]
  rw [Nat.zero_add]
  exact hu
 ·by_cases hb : b = w.heap.size
  ·exact .inr (.inr (by omega))
  ·simp only [M2, if_neg hb] at hv; exact .inl hv
theorem qfw {B : Nat → Blk} : ∀ {l r : List V}, qa2 B l = some r → r.all qfE = true → r.length = l.length ∧ ∀ (M : Mem) (φ : Plc) (j : Nat) y u, l[j]? = some y → RL M φ u y → ∃ z, r[j]? = some z ∧ R0 M u z
 | [], r, h, _ => by
  cases h
  exact ⟨rfl, fun _ _ j y u hy _ => by simp at hy⟩
 | v :: l, r, h, hs => by
  obtain ⟨x, hx, h1⟩ := qi (show (imm B none v).ob (fun x => (qa2 B l).ob fun l => some (x :: l)) = some r from h)
  obtain ⟨q, hq, h2⟩ := qi h1
  cases h2
  simp only [List.all_cons, Bool.and_eq_true] at hs
  obtain ⟨i1, i2⟩ := qfw hq hs.2
  refine ⟨by simp [i1], fun M φ j y u hy hu => ?_⟩
  cases j with
  | zero =>
   simp at hy
   subst hy
   refine ⟨x, by simp, ?_⟩
   have hs1 := hs.1
   cases v with
   | own id => obtain ⟨q, hq, h3⟩ := qi (show (qaC B (.own id)).ob (fun q => some (V.ints q.1 q.2)) = some x from hx); cases h3; cases hs1
   | osl id lo hi => obtain ⟨q, hq, h3⟩ := qi (show (qaC B (.osl id lo hi)).ob (fun q => some (V.ints q.1 q.2)) = some x from hx); cases h3; cases hs1
   | nils k => cases k <;> first | (cases hx; cases hs1; done) | cases hx
   | tt => cases hx; exact hu
   | ff => cases hx; exact hu
   | cnd p i => cases hx; exact hu
   | int k n => cases hx; exact hu
   | bool b => cases hx; exact hu
   | str s => cases hx; exact hu
   | ints k l => cases hx; cases hs1
   | rows ks l => cases hx; cases hs1
   | fn f => cases hx; cases hs1
   | nili => cases hx; cases hs1
   | nilp => cases hx; cases hs1
   | _ => cases hx
  | succ j =>
   obtain ⟨z, hz, h3⟩ := i2 M φ j y u (by simpa using hy) hu
   exact ⟨z, by simpa using hz, h3⟩
theorem qhr {t : TypeId} {x : Operand} (h : ql C g B nx dr ⟨dst, .box t x, ty, pos, after, guard⟩ K = some r) :
  ∃ X U n', K X U n' = some r ∧ qh C P g B nx dr ⟨dst, .box t x, ty, pos, after, guard⟩ X U n' := by
 simp only [ql] at h
 rcases qat h with ⟨_, h⟩ | ⟨_, h⟩
 ·split at h
  ·rename_i l hl
   obtain ⟨hs, h⟩ := qf h
   refine ⟨_, _, _, h, Nat.le_refl _, fun M φ B' w ρ hi hf => ?_⟩
   obtain ⟨hlen, hget⟩ := qfw hl hs
   have hd : qa3 (g x) = false := by
    cases hx : g x with
    | und => rw [hx] at hl; cases hl
    | dead => rw [hx] at hl; cases hl
    | tup l => rw [hx] at hl; cases hl
    | _ => rfl
   obtain ⟨h1, h2⟩ := qcg (hi.args x (by simp [Op.operands])) hd
   refine qg2 (e := t) (cs := (ρ x).cells) hi.rel fun j z hz => ?_
   have hj : j < (qad (g x)).length := by have := (List.getElem?_eq_some_iff.1 hz).1; omega
   obtain ⟨u, hu, hru⟩ := h2 j _ (List.getElem?_eq_getElem hj)
   obtain ⟨z', hz', hr0⟩ := hget M φ j _ u (List.getElem?_eq_getElem hj) hru
   rw [hz] at hz'
   cases hz'
   exact ⟨u, hu, hr0⟩
  ·cases h
 obtain ⟨hd, h⟩ := qf h
 have hd : qa3 (g x) = false := by simpa using hd
 refine ⟨_, _, _, h, Nat.le_succ _, fun M φ B' w ρ hi hf => ?_⟩
 obtain ⟨h1, h2⟩ := qcg (hi.args x (by simp [Op.operands])) hd
 exact qfM (nx := nx) (t := t) (v := ρ x) hi.rel (hf nx (Nat.le_refl _) (Nat.lt_succ_self _)) h1 h2
theorem qhD {fn : Go.Fn} {first cap : Array Operand} (h : ql C g B nx dr ⟨dst, .makeFunc fn first cap, ty, pos, after, guard⟩ K = some r) :
  ∃ X U n', K X U n' = some r ∧ qh C P g B nx dr ⟨dst, .makeFunc fn first cap, ty, pos, after, guard⟩ X U n' := by
 cases fn with
 | func f =>
  simp only [ql] at h
  obtain ⟨hb, hk⟩ := qf h
  clear h
  simp only [Bool.and_eq_true] at hb
  obtain ⟨hb1, hb2⟩ := hb
  have hf0 : first = #[] := by
   obtain ⟨l⟩ := first
   cases l with
   | nil => rfl
   | cons _ _ => cases hb1
  subst hf0
  refine ⟨_, _, _, hk, qh.pure fun M φ B' w ρ hi => ?_⟩
  refine ⟨.func (.func f) #[] (cap.map ρ), by simp [execOp, Instr.makeFunc], (cap.map ρ), rfl, by simp [qak], fun j y hy => ?_⟩
  simp only [qak, List.getElem?_map] at hy
  cases ha : cap.toList[j]? with
  | none => rw [ha] at hy; cases hy
  | some z =>
   rw [ha] at hy
   cases hy
   have hz := hi.args z (by simp only [Op.operands]; have := List.mem_of_getElem? ha; simp at this; simp [this])
   refine ⟨ρ z, by simp only [Array.getElem?_toList] at ha; simp [ha], ?_⟩
   have := List.all_eq_true.1 hb2 (g z) (by simp only [qak, List.mem_map]; exact ⟨z, List.mem_of_getElem? ha, rfl⟩)
   cases hgz : g z with
   | iptr l => rw [hgz] at hz; exact hz
   | _ => rw [hgz] at this; cases this
 | _ => simp only [ql] at h; cases h
end
def qn : Blk → Blk | .ints k l _ => .ice k l | b => b
theorem qiN {U : List (Nat × Blk)} {B : Nat → Blk} {id : Nat} (h : ∀ q ∈ U, q.1 ≠ id) : qp U B id = B id := by
 induction U with
 | nil => rfl
 | cons q r ih =>
  obtain ⟨j, b⟩ := q
  have h1 : j ≠ id := h (j, b) (by simp)
  have : Nat.beq j id = false := by cases e : Nat.beq j id; rfl; exact absurd (qu e) h1
  simp only [qp, this, qbQ]
  exact ih (fun q hq => h q (by simp [hq]))
theorem qdz {B : Nat → Blk} {ns : List Nat} {id : Nat} : qp (qT B ns) B id = if id ∈ ns then qn (B id) else B id := by
 induction ns with
 | nil => rfl
 | cons a r ih =>
  unfold qT
  by_cases e : id = a
  ·subst e
   split
   ·rename_i k l t hB
    simp [qp, hB, qn]
   ·rename_i hB
    rw [ih]
    have : qn (B id) = B id := by
     cases hb : B id <;> first | rfl | exact absurd hb (hB _ _ _)
    simp [this]
  ·have hn : Nat.beq a id = false := by cases h : Nat.beq a id; rfl; exact absurd (qu h).symm e
   split
   ·simp only [qp, hn, qbQ, ih, List.mem_cons, e, false_or]
   ·simp only [ih, List.mem_cons, e, false_or]
theorem qeK {U U' : List (Nat × Blk)} {B : Nat → Blk} {id : Nat} : qp (U ++ U') B id = qp U (qp U' B) id := by
 induction U with
 | nil => rfl
 | cons q r ih => obtain ⟨j, b⟩ := q; simp only [List.cons_append, qp, ih]
theorem qg0 (b : Blk) : qn (qn b) = qn b := by cases b <;> rfl
def qbx (M : Mem) (w : World) (p : Pl) (n : Nat) : Mem := fun b o => if b = p.b ∧ p.s ≤ o ∧ o < p.s + n then w.cell? ⟨b, o, none⟩ else M b o
theorem qgY {M : Mem} {φ : Plc} {B : Nat → Blk} {w : World} (hr : Rel M φ B w) (a : Nat) :
  ∃ M', Rel M' φ (fun id => if id = a then qn (B id) else B id) w ∧ Stp M φ B w M' φ (fun id => if id = a then qn (B id) else B id) w := by
 have same : qn (B a) = B a → ∃ M', Rel M' φ (fun id => if id = a then qn (B id) else B id) w ∧ Stp M φ B w M' φ (fun id => if id = a then qn (B id) else B id) w := by
  intro e
  have : (fun id => if id = a then qn (B id) else B id) = B := by funext id; split; (· rename_i h; subst h; exact e); rfl
  rw [this]
  exact ⟨M, hr, Stp.refl M φ B w⟩
 cases hB : B a with
 | cells l => exact same (by rw [hB]; rfl)
 | ice k l => exact same (by rw [hB]; rfl)
 | iter s q => exact same (by rw [hB]; rfl)
 | gone => exact same (by rw [hB]; rfl)
 | ints k l t =>
  cases hφ : φ a with
  | none =>
   refine ⟨M, ⟨hr.holds, fun id p hp => ?_, fun id p hp ha => ?_, fun id id' p p' hne hp hp' ha ha' => ?_⟩, ⟨Ext.refl M, Kp.refl _ w, ?_, fun _ _ _ h => .inl h⟩⟩
   ·have : id ≠ a := fun e => by subst e; rw [hφ] at hp; cases hp
    simp only [if_neg this]; exact hr.blk id p hp
   ·have : id ≠ a := fun e => by subst e; rw [hφ] at hp; cases hp
    simp only [if_neg this] at ha ⊢; exact hr.own id p hp ha
   ·have h1 : id ≠ a := fun e => by subst e; rw [hφ] at hp; cases hp
    have h2 : id' ≠ a := fun e => by subst e; rw [hφ] at hp'; cases hp'
    simp only [if_neg h1] at ha
    simp only [if_neg h2] at ha'
    exact hr.dis id id' p p' hne hp hp' ha ha'
   ·rintro b o ⟨id, p, j, hp, ha, hj, rfl, rfl⟩
    have h1 : id ≠ a := fun e => by subst e; rw [hφ] at hp; cases hp
    simp only [if_neg h1] at ha
    exact .inl ⟨id, p, j, hp, ha, hj, rfl, rfl⟩
  | some p =>
   have hb := hr.blk a p hφ
   rw [hB] at hb
   obtain ⟨h1, h2, h3, h4, h5, h6, h7⟩ := hb
   have hown := hr.own a p hφ (by rw [hB]; rfl)
   have hext : Ext M (qbx M w p l.length) := by
    intro b o v hv
    unfold qbx
    split
    ·exact hr.holds b o v hv
    ·exact hv
   refine ⟨qbx M w p l.length, ⟨?_, ?_, ?_, ?_⟩, ⟨hext, Kp.refl _ w, ?_, ?_⟩⟩
   ·intro b o v hv
    unfold qbx at hv
    split at hv
    ·exact hv
    ·exact hr.holds b o v hv
   ·intro id q hq
    by_cases e : id = a
    ·subst e
     simp only [if_pos rfl, hB, qn]
     rw [hφ] at hq
     cases hq
     refine ⟨h1, h2, fun hn => (h3 hn).2, fun j x hx => ?_⟩
     have hj := (List.getElem?_eq_some_iff.1 hx).1
     refine ⟨?_, (h7 j x hx).2⟩
     unfold qbx
     rw [if_pos ⟨rfl, by omega, by omega⟩]
     exact (h7 j x hx).1
    ·simp only [if_neg e]
     exact (hr.blk id q hq).mono hext (qr.refl φ) (fun _ _ _ _ h => h)
   ·intro id q hq ha
    by_cases e : id = a
    ·subst e
     simp only [if_pos rfl, hB, qn] at ha
     cases ha
    ·simp only [if_neg e] at ha ⊢
     intro j hj
     obtain ⟨hc, hf, hm⟩ := hr.own id q hq ha j hj
     refine ⟨hc, hf, ?_⟩
     unfold qbx
     rw [if_neg]
     ·exact hm
     ·rintro ⟨hbb, hlo, hhi⟩
      exact hr.dis id a q p e hq hφ ha (by rw [hB]; rfl) j (q.s + j - p.s) hj (by omega) hbb (by omega)
   ·intro id id' q q' hne hq hq' ha ha'
    by_cases e : id = a
    ·subst e; simp only [if_pos rfl, hB, qn] at ha; cases ha
    by_cases e' : id' = a
    ·subst e'; simp only [if_pos rfl, hB, qn] at ha'; cases ha'
    simp only [if_neg e] at ha
    simp only [if_neg e'] at ha'
    exact hr.dis id id' q q' hne hq hq' ha ha'
   ·rintro b o ⟨id, q, j, hq, ha, hj, rfl, rfl⟩
    by_cases e : id = a
    ·subst e; simp only [if_pos rfl, hB, qn] at ha; cases ha
    simp only [if_neg e] at ha
    exact .inl ⟨id, q, j, hq, ha, hj, rfl, rfl⟩
   ·intro b o v hv
    unfold qbx at hv
    split at hv
    ·rename_i h
     obtain ⟨rfl, hlo, hhi⟩ := h
     exact .inr (.inl ⟨a, p, o - p.s, hφ, by rw [hB]; rfl, by omega, rfl, by omega⟩)
    ·exact .inl hv
theorem qbU {M : Mem} {φ : Plc} {B : Nat → Blk} {w : World} (hr : Rel M φ B w) (ns : List Nat) :
  ∃ M', Rel M' φ (fun id => if id ∈ ns then qn (B id) else B id) w ∧ Stp M φ B w M' φ (fun id => if id ∈ ns then qn (B id) else B id) w := by
 induction ns generalizing M B with
 | nil => exact ⟨M, by simpa using hr, by simpa using Stp.refl M φ B w⟩
 | cons a r ih =>
  obtain ⟨M1, r1, s1⟩ := qgY hr a
  obtain ⟨M2, r2, s2⟩ := ih r1
  have e : (fun id => if id ∈ r then qn (if id = a then qn (B id) else B id) else (if id = a then qn (B id) else B id)) = fun id => if id ∈ a :: r then qn (B id) else B id := by
   funext id
   simp only [List.mem_cons]
   by_cases h1 : id = a <;> by_cases h2 : id ∈ r <;> simp [h1, h2, qg0]
  rw [e] at r2 s2
  exact ⟨M2, r2, s1.trans s2⟩
theorem qh4 {B : Nat → Blk} {id : Nat} {q : IntKind × List Int} (h : qaC B (.own id) = some q) : qn (B id) = .ice q.1 q.2 := by
 simp only [qaC] at h
 cases hb : B id <;> rw [hb] at h <;> simp at h <;> (subst h; rfl)
theorem qh3 {B : Nat → Blk} {id : Nat} {lo hi : Option Int} {q : IntKind × List Int} (h : qaC B (.osl id lo hi) = some q) : ∃ l, qn (B id) = .ice q.1 l ∧ q.2 = qU l lo hi := by
 simp only [qaC] at h
 cases hb : B id <;> rw [hb] at h <;> simp at h <;> (subst h; exact ⟨_, rfl, rfl⟩)
theorem qd7 {M M' : Mem} {φ : Plc} {B B' : Nat → Blk} {w : World} {u : Value} {c x : V} {k : Option IntKind} (h : imm B k c = some x) (hu : RV M φ u c) (hM : Ext M M') (hr : Rel M' φ B' w)
  (hB : ∀ id ∈ qai c, B' id = qn (B id)) : RL M' φ u x ∧ qaT x = false := by
 have row : ∀ {id : Nat} {p : Pl} {k : IntKind} {l : List Int}, φ id = some p → B' id = .ice k l → qb7 p l.length ∧ ∀ (j : Nat) y, l[j]? = some y → M' p.b (p.s + j) = some (.int k y) ∧ inr k y := by
  intro id p k l hp hb
  have := hr.blk id p hp
  rw [hb] at this
  exact ⟨qev this, this.2.2.2⟩
 unfold imm at h
 split at h
 ·rename_i id
  obtain ⟨q, hq, h⟩ := qi h
  cases h
  obtain ⟨p, hp, rfl⟩ := hu
  have hb : B' id = .ice q.1 q.2 := by
   rw [hB id (by simp [qai])]
   exact qh4 hq
  obtain ⟨⟨h1, h2, h3⟩, h7⟩ := row hp hb
  refine ⟨⟨fun y hy => by obtain ⟨j, hj⟩ := List.getElem?_of_mem hy; exact (h7 j y hj).2, ?_⟩, rfl⟩
  unfold Pl.val
  cases hn : p.nl
  ·exact .inr ⟨p.b, p.s, p.cap, by simp [h1], by omega, fun i y hy => (h7 i y hy).1⟩
  ·have := h3 hn
   exact .inl ⟨rfl, List.length_eq_zero_iff.1 (by omega)⟩
 ·rename_i id lo hi
  obtain ⟨q, hq, h⟩ := qi h
  cases h
  obtain ⟨p, hp, a, e, ha, he, hae, hep, hv⟩ := hu
  obtain ⟨l', hb, hq2⟩ : ∃ l', B' id = .ice q.1 l' ∧ q.2 = qU l' lo hi := by
   rw [hB id (by simp [qai])]
   exact qh3 hq
  obtain ⟨⟨h1, h2, h3⟩, h7⟩ := row hp hb
  have hpc : qU l' lo hi = (l'.take e).drop a := by
   unfold qU
   subst ha he
   cases lo <;> cases hi <;> simp [h1]
  have hlen : (qU l' lo hi).length = e - a := by rw [hpc]; simp; omega
  rw [hq2]
  refine ⟨⟨fun y hy => ?_, ?_⟩, rfl⟩
  ·rw [hpc] at hy
   obtain ⟨j, hj⟩ := List.getElem?_of_mem (List.mem_of_mem_take (List.mem_of_mem_drop hy))
   exact (h7 j y hj).2
  ·rcases hv with ⟨hn, rfl⟩ | ⟨hn, s', c', rfl, hc1, hc2, hs1, hs2⟩
   ·have := h3 hn
    exact .inl ⟨rfl, List.length_eq_zero_iff.1 (by omega)⟩
   ·refine .inr ⟨p.b, s', c', by rw [hlen], by omega, fun i y hy => ?_⟩
    have hi' : i < e - a := by have := (List.getElem?_eq_some_iff.1 hy).1; omega
    rw [hpc, List.getElem?_drop, List.getElem?_take, if_pos (by omega)] at hy
    rw [hs1 (by omega), Nat.add_assoc]
    exact (h7 _ _ hy).1
 ·cases h
  obtain rfl : u = .slice none 0 0 := hu
  exact ⟨⟨by simp, .inl ⟨rfl, rfl⟩⟩, rfl⟩
 ·split at h
  ·cases h
   obtain rfl : u = .slice none 0 0 := hu
   exact ⟨⟨by simp, .inl ⟨rfl, rfl⟩⟩, rfl⟩
  ·cases h
 all_goals first
  | (cases h; exact ⟨RL.mono hM (qr.refl φ) hu, rfl⟩)
  | cases h
theorem qfZ : ∀ (l : List Value) (k : Nat) (cs : Array Value) (off : Nat),
  ((l.zipIdx k).foldl (fun cs (q : Value × Nat) => cs.setIfInBounds (off + q.2) q.1) cs).size = cs.size ∧
  ∀ x, ((l.zipIdx k).foldl (fun cs (q : Value × Nat) => cs.setIfInBounds (off + q.2) q.1) cs)[x]? = if off + k ≤ x ∧ x < off + k + l.length ∧ x < cs.size then l[x - off - k]? else cs[x]?
 | [], k, cs, off => ⟨rfl, fun x => by rw [if_neg (by simp; omega)]; rfl⟩
 | v :: r, k, cs, off => by
  obtain ⟨h1, h2⟩ := qfZ r (k + 1) (cs.setIfInBounds (off + k) v) off
  simp only [List.zipIdx_cons, List.foldl_cons]
  refine ⟨by rw [h1]; simp, fun x => ?_⟩
  rw [h2 x]
  simp only [Array.size_setIfInBounds, List.length_cons]
  by_cases hx : x = off + k
  ·subst hx
   rw [if_neg (by omega)]
   by_cases hlt : off + k < cs.size
   ·rw [if_pos ⟨by omega, by omega, hlt⟩]
    simp [Array.getElem?_setIfInBounds, hlt, show off + k - off - k = 0 by omega]
   ·rw [if_neg (by omega)]
    simp [Array.getElem?_setIfInBounds, hlt]
  ·rw [Array.getElem?_setIfInBounds_ne (by omega)]
   by_cases hc : off + k ≤ x ∧ x < off + k + (r.length + 1) ∧ x < cs.size
   ·rw [if_pos ⟨by omega, by omega, hc.2.2⟩, if_pos hc, show x - off - k = (x - off - (k + 1)) + 1 by omega]
    simp
   ·rw [if_neg (by omega), if_neg hc]
theorem qf2 (v : Array Value) (cs : Array Value) (off : Nat) :
  (v.zipIdx.foldl (fun cs (q : Value × Nat) => cs.setIfInBounds (off + q.2) q.1) cs).size = cs.size ∧
  ∀ x, (v.zipIdx.foldl (fun cs (q : Value × Nat) => cs.setIfInBounds (off + q.2) q.1) cs)[x]? = if off ≤ x ∧ x < off + v.size ∧ x < cs.size then v[x - off]? else cs[x]? := by
 have := qfZ v.toList 0 cs off
 have e : v.zipIdx.foldl (fun cs (q : Value × Nat) => cs.setIfInBounds (off + q.2) q.1) cs = (v.toList.zipIdx 0).foldl (fun cs (q : Value × Nat) => cs.setIfInBounds (off + q.2) q.1) cs := by
  rw [← Array.foldl_toList]; simp
 rw [e]
 simpa using this
theorem qcx : ∀ (l : List V) (off : Nat) (cs : List V), off + cs.length ≤ l.length → (qax l off cs).length = l.length ∧ ∀ x, (qax l off cs)[x]? = if off ≤ x ∧ x < off + cs.length then cs[x - off]? else l[x]?
 | l, off, [], _ => ⟨by cases l <;> cases off <;> rfl, fun x => by rw [if_neg (by simp only [List.length_nil]; omega)]; cases l <;> cases off <;> rfl⟩
 | [], off, c :: cs, h => by simp at h
 | x :: l, 0, c :: cs, h => by
  obtain ⟨h1, h2⟩ := qcx l 0 cs (by simpa using h)
  refine ⟨by simp [qax, h1], fun y => ?_⟩
  cases y with
  | zero => simp [qax]
  | succ y =>
   simp only [qax, List.getElem?_cons_succ, h2 y, List.length_cons]
   by_cases hc : y < cs.length
   ·rw [if_pos ⟨by omega, by omega⟩, if_pos ⟨by omega, by omega⟩]
    simp
   ·rw [if_neg (by omega), if_neg (by omega)]
 | x :: l, n + 1, c :: cs, h => by
  obtain ⟨h1, h2⟩ := qcx l n (c :: cs) (by simp at h ⊢; omega)
  refine ⟨by simp [qax, h1], fun y => ?_⟩
  cases y with
  | zero => simp [qax]
  | succ y =>
   simp only [qax, List.getElem?_cons_succ, h2 y]
   by_cases hc : n ≤ y ∧ y < n + (c :: cs).length
   ·rw [if_pos hc, if_pos ⟨by omega, by omega⟩, show y + 1 - (n + 1) = y - n by omega]
   ·rw [if_neg hc, if_neg (by omega)]
def qaH (M : Mem) (φ : Plc) (cs : Array Value) (l : List V) : Prop := cs.size = l.length ∧ ∀ (j : Nat) y, l[j]? = some y → ∃ u, cs[j]? = some u ∧ RL M φ u y
theorem qaH.put {M : Mem} {φ : Plc} {cs : Array Value} {l : List V} {v : Array Value} {m : List V} {off : Nat} (h : qaH M φ cs l) (hv : qaH M φ v m) (hle : off + m.length ≤ l.length) :
  qaH M φ (v.zipIdx.foldl (fun cs (q : Value × Nat) => cs.setIfInBounds (off + q.2) q.1) cs) (qax l off m) := by
 obtain ⟨a1, a2⟩ := qf2 v cs off
 obtain ⟨b1, b2⟩ := qcx l off m hle
 refine ⟨by rw [a1, b1, h.1], fun j y hy => ?_⟩
 rw [b2] at hy
 rw [a2]
 by_cases hc : off ≤ j ∧ j < off + m.length
 ·rw [if_pos hc] at hy
  rw [if_pos ⟨hc.1, by rw [hv.1]; exact hc.2, by rw [h.1]; omega⟩]
  exact hv.2 _ _ hy
 ·rw [if_neg hc] at hy
  rw [if_neg (by rw [hv.1]; omega)]
  exact h.2 _ _ hy
section
variable {C : Cfg} {P : Program} {g : Operand → V} {B : Nat → Blk} {nx : Nat} {dr : Bool} {dst : Option Tmp} {ty : TypeId} {pos : String} {after : Array Edge} {guard : Option (Nat × Bool)} {R : Type} {r : R} {K : KV R}
theorem qcm {t : Nat} {ti : TI} {k : IntKind} (I : qB P t ti) (h : ti.d = .int k) : ti.sz = 1 ∧ I.z.cells = #[.int k 0] := by
 have hz := I.hzs
 rw [I.hzi k h] at hz
 have hn := I.hzn
 rcases hl : I.z.cells with ⟨_ | ⟨v, _ | ⟨_, _⟩⟩⟩
 ·rw [hl] at hz; cases hz
 ·rw [hl] at hz hn
  simp only [qbN, Bool.and_true] at hz
  refine ⟨by simpa using hn.symm, ?_⟩
  cases v <;> simp [zOk] at hz
  obtain ⟨hk, rfl⟩ := hz
  rw [qE hk]
 ·rw [hl] at hz; simp [qbN] at hz
def qh5 (w : World) (n len : Nat) : Pl := ⟨w.heap.size, 0, n, len, n, false⟩
theorem qde {M : Mem} {φ : Plc} {w w1 : World} {B' : Nat → Blk} {t : Nat} {k : IntKind} {l : List Int} {arr : Array Value} (hr : Rel M φ B' w) (hφ : φ nx = none) (hg : qt w w1)
  (hin : ∀ x ∈ l, inr k x) (hle : l.length ≤ arr.size) (ha : ∀ (j : Nat) x, l[j]? = some x → arr[j]? = some (.int k x)) :
  qX M φ B' w (.own nx) [(nx, .ints k l true)] nx (nx + 1) (.slice (some ⟨w1.heap.size, 0, none⟩) l.length arr.size) (w1.alloc (.cells arr t)) := by
 refine qdK (p := qh5 w1 arr.size l.length) hr hφ hg rfl rfl rfl ?_ ?_
 ·intro φ' _ _
  refine ⟨rfl, hle, fun h => (by cases h), fun _ _ => rfl, fun h => (by cases h), hle, fun j x hx => ⟨?_, hin x (List.mem_of_getElem? hx)⟩⟩
  show (w1.alloc (.cells arr t)).cell? ⟨w1.heap.size, 0 + j, none⟩ = _
  rw [Nat.zero_add, World.cell?_alloc_new]
  exact ha j x hx
 ·exact ⟨_, qaa, rfl⟩
theorem qgt {n : Int} (h0 : 0 ≤ n) (h : n ≤ 281474976710656) : IntKind.i64.wrap n = n := by
 have : IntKind.i64.wrap n = wrap64 n := (qbk .i64 n).symm
 rw [this]; unfold wrap64; omega
theorem qhc {t e : Nat} {ti : TI} {k : IntKind} {w : World} (hu : ∀ w, (underlying t).run P w = .ok (.slice e) w) (I : qB P e ti) (hk : ti.d = .int k) {n c : Int} (h0 : 0 ≤ n) (hnc : n ≤ c) (hc : c.toNat ≤ 281474976710656 / ti.wd) :
  ∃ arr : Array Value, (Instr.makeSlice t (.int .i64 n) (.int .i64 c)).run P w = .ok (.slice (some ⟨w.heap.size, 0, none⟩) n.toNat arr.size) (w.alloc (.cells arr e)) ∧ arr.size = c.toNat ∧ ∀ j, j < c.toNat → arr[j]? = some (.int k 0) := by
 obtain ⟨hsz, hz⟩ := qcm I hk
 have hmul : ti.wd * c.toNat ≤ 281474976710656 := Nat.le_trans (Nat.mul_le_mul_left _ hc) (Nat.mul_div_le _ _)
 have hc0 : 0 ≤ c := by omega
 have hcb : c ≤ 281474976710656 := by
  have : 281474976710656 / ti.wd ≤ 281474976710656 := Nat.div_le_self _ _
  omega
 refine ⟨(Array.range c.toNat).map (fun i => #[Value.int k 0][i % 1]!), ?_, by simp, fun j hj => ?_⟩
 ·unfold Instr.makeSlice
  simp only [Sem.run_bind, hu, Result.andThen_ok, asInt, asIntOf, Sem.run_pure, I.run_info]
  rw [qgt h0 (by omega), qgt hc0 hcb]
  have hb : ¬ ((I.i.bytes : Int) * c > 2 ^ 48) := by
   rw [I.hb]
   have : ((ti.wd : Int) * c) = ((ti.wd * c.toNat : Nat) : Int) := by rw [Int.natCast_mul, Int.toNat_of_nonneg hc0]
   rw [this]
   have : ((ti.wd * c.toNat : Nat) : Int) ≤ 281474976710656 := Int.ofNat_le.2 hmul
   have e : (2 : Int) ^ 48 = 281474976710656 := by decide
   rw [e]
   omega
  have hcond : (decide (c < 0) || decide ((I.i.bytes : Int) * c > 2 ^ 48)) = false := by
   rw [Bool.or_eq_false_iff]
   exact ⟨decide_eq_false (by omega), decide_eq_false hb⟩
  have hcond2 : (decide (n < 0) || decide (n > c)) = false := by
   rw [Bool.or_eq_false_iff]
   exact ⟨decide_eq_false (by omega), decide_eq_false (by omega)⟩
  simp only [hcond, Bool.false_or, hcond2, Bool.false_eq_true, if_false]
  simp only [Sem.run_bind, run_askRoom, Result.andThen_ok, I.run_size, hsz, Nat.mul_one]
  by_cases hc1 : c.toNat = 0
  ·simp only [hc1, if_true]
   simp [newRow]
   rw [Array.eq_empty_of_size_eq_zero (xs := Array.map (fun x => default) (Array.range 0)) (by simp), Array.eq_empty_of_size_eq_zero (xs := Array.map (fun i => [Value.int k 0][i % 1]?.getD default) (Array.range 0)) (by simp)]
  ·simp only [hc1, if_false, Sem.run_bind, I.run_zero, Result.andThen_ok, Sem.run_pure, hz]
   simp [newRow]
 ·simp [hj, Nat.mod_one]
theorem qhE {t : TypeId} {x y : Operand} (hT : TOk P C.T) (h : ql C g B nx dr ⟨dst, .makeSlice t x y, ty, pos, after, guard⟩ K = some r) :
  ∃ X U n', K X U n' = some r ∧ qh C P g B nx dr ⟨dst, .makeSlice t x y, ty, pos, after, guard⟩ X U n' := by
 simp only [ql] at h
 split at h
 ·rename_i ti k n c hel hsk hx hy
  obtain ⟨e, ti', hel', hk, he, ⟨I⟩⟩ := qcy hT hsk
  rw [hel] at hel'
  cases hel'
  have go : 0 ≤ n → n ≤ c → c.toNat ≤ 281474976710656 / ti.wd → qh C P g B nx dr ⟨dst, .makeSlice t x y, ty, pos, after, guard⟩ (.own nx) [(nx, .ints k (List.replicate n.toNat 0) true)] (nx + 1) := by
   intro h0 hnc hc
   refine ⟨Nat.le_succ _, fun M φ B' w ρ hi hf => ?_⟩
   have hv := hi.args x (by simp [Op.operands])
   have hw := hi.args y (by simp [Op.operands])
   rw [hx] at hv
   rw [hy] at hw
   obtain ⟨arr, hrun, hsz, harr⟩ := qhc (w := w) he I hk h0 hnc hc
   have := qde (nx := nx) (t := e) (k := k) (l := List.replicate n.toNat 0) (arr := arr) hi.rel (hf nx (Nat.le_refl _) (Nat.lt_succ_self _)) (qt.refl w)
    (fun z hz => by rw [List.mem_replicate] at hz; rw [hz.2]; exact fun _ => Int.le_refl 0) (by simp; omega)
    (fun j z hz => by
     rw [List.getElem?_replicate] at hz
     split at hz
     ·cases hz; exact harr j (by omega)
     ·cases hz)
   unfold qW
   have e1 : (execOp ρ ⟨dst, .makeSlice t x y, ty, pos, after, guard⟩).run P w = .ok (.value (.slice (some ⟨w.heap.size, 0, none⟩) n.toNat arr.size)) (w.alloc (.cells arr e)) := by
    simp only [execOp, hv.1, hw.1, Sem.run_bind, hrun]
    rfl
   rw [e1]
   rw [List.length_replicate] at this
   exact this
  split at h
  ·rename_i hso
   obtain ⟨h0, h1⟩ := qx h
   obtain ⟨hc, h2⟩ := qx h1
   have hxy : x = y := by
    unfold ql.sameOp at hso
    split at hso
    ·rw [qu hso]
    ·cases hso
   subst hxy
   rw [hx] at hy
   cases hy
   exact ⟨_, _, _, h2, go h0 (Int.le_refl _) hc⟩
  ·obtain ⟨h0, h1⟩ := qx h
   obtain ⟨hnc, h2⟩ := qx h1
   obtain ⟨hc, h3⟩ := qx h2
   exact ⟨_, _, _, h3, go h0 hnc hc⟩
 ·cases h
theorem qd5 {place : Nat → Option (Nat × Nat)} {cells : Array Value} {i : Nat} {v : Value} {rest : List (Nat × Value)} {off size : Nat} (hp : place i = some (off, size)) (hs : v.cells.size = size) (hle : off + size ≤ cells.size) :
  Instr.fill place cells ((i, v) :: rest) = Instr.fill place (v.cells.zipIdx.foldl (fun cs (q : Value × Nat) => cs.setIfInBounds (off + q.2) q.1) cells) rest := by
 rw [Instr.fill, hp]
 simp only
 rw [if_neg (by simp [hs]; omega)]
theorem qfg {M : Mem} {φ : Plc} {k : IntKind} : ∀ (ps : List (Nat × Operand)) {ρ : Operand → Value} {l l' : List Int} {cells : Array Value},
  (∀ q ∈ ps, RV M φ (ρ q.2) (g q.2)) → qbS k (ps.map fun p => (p.1, g p.2)) l = some l' → qaH M φ cells (l.map (V.int k)) →
  ∃ cells', Instr.fill (fun i => some (i * 1, 1)) cells (ps.map fun p => (p.1, ρ p.2)) = some cells' ∧ qaH M φ cells' (l'.map (V.int k))
 | [], ρ, l, l', cells, _, h, hc => by
  cases h
  exact ⟨cells, rfl, hc⟩
 | (j, y) :: r, ρ, l, l', cells, hv, h, hc => by
  have hy := hv (j, y) (by simp)
  simp only [List.map_cons] at h ⊢
  cases hgy : g y <;> rw [hgy] at h <;> simp only [qbS] at h <;> try (cases h; done)
  rename_i k' n
  obtain ⟨hb, h1⟩ := qf h
  simp only [Bool.and_eq_true] at hb
  obtain rfl := qE hb.1
  have hlt : j < l.length := Nat.blt_eq.mp hb.2
  rw [hgy] at hy
  have hone : qaH M φ (ρ y).cells [.int k n] := by
   obtain ⟨e, hr⟩ := hy
   rw [e]
   refine ⟨rfl, fun i z hz => ?_⟩
   cases i with
   | zero => simp at hz; subst hz; exact ⟨_, rfl, rfl, hr⟩
   | succ i => simp at hz
  have h2 := hc.put hone (off := j) (by simp; omega)
  have e : qax (l.map (V.int k)) j [.int k n] = (l.set j n).map (V.int k) := by
   apply List.ext_getElem?
   intro x
   rw [(qcx _ _ _ (by simp; omega)).2 x]
   simp only [List.getElem?_map, List.getElem?_set]
   by_cases hx : j = x
   ·subst hx; simp [hlt]
   ·rw [if_neg (by simp; omega), if_neg hx]
  rw [e] at h2
  obtain ⟨c', e1, e2⟩ := qfg r (fun q hq => hv q (by simp [hq])) h1 h2
  exact ⟨c', by rw [qd5 (off := j * 1) (size := 1) rfl (by rw [hone.1]; rfl) (by rw [hc.1]; simp; omega)]; simpa using e1, e2⟩
theorem qe1 {t e n : Nat} {ti : TI} {w : World} (hu : ∀ w, (underlying t).run P w = .ok (.slice e) w) (I : qB P e ti) (hn : n * ti.sz ≤ 16777216) (parts : Array (Nat × Value)) (cells : Array Value)
  (hfill : ∀ z1 : Array Value, z1.size = n * ti.sz → (∀ (j : Nat), j < n * ti.sz → z1[j]? = I.z.cells[j % ti.sz]?) → Instr.fill (fun i => some (i * ti.sz, ti.sz)) z1 parts.toList = some cells) :
  (Instr.buildSlice t n parts).run P w = .ok (.slice (some ⟨w.heap.size, 0, none⟩) n n) (w.alloc (.cells cells e)) := by
 have e24 : (2 : Nat) ^ 24 = 16777216 := by decide
 unfold Instr.buildSlice
 simp only [Sem.run_bind, hu, Result.andThen_ok, I.run_size]
 rw [if_neg (by rw [e24]; omega)]
 by_cases h0 : n * ti.sz = 0
 ·simp only [h0, if_true, Sem.run_bind, Sem.run_pure, Result.andThen_ok]
  rw [hfill _ (by simp [h0]) (fun j hj => by omega)]
  simp [newRow]
 ·simp only [h0, if_false, Sem.run_bind, Sem.run_pure, I.run_zero, Result.andThen_ok]
  have hs : ti.sz ≠ 0 := fun e => h0 (by simp [e])
  rw [hfill _ (by simp) (fun j hj => by
   have hlt : j % ti.sz < I.z.cells.size := by rw [I.hzn]; exact Nat.mod_lt _ (by omega)
   simp [hj, I.hzn]
   rw [getElem!_pos I.z.cells (j % ti.sz) hlt]
   simp [hlt])]
  simp [newRow]
theorem qgr : ∀ {k : LK} {v : V} {x : k.T}, vLk k v = some x → lkV k x = v
 | .i k, .int k' n, x, h => by
  obtain ⟨h1, h2⟩ := qf (show bc (qv k k') (some n) none = some x from h)
  cases h2
  rw [qE h1]; rfl
 | .b, .bool b, x, h => by cases h; rfl
 | .s, .str s, x, h => by cases h; rfl
 | .is k, .ints k' l, x, h => by
  obtain ⟨h1, h2⟩ := qf (show bc (qv k k') (some l) none = some x from h)
  cases h2
  rw [qE h1]; rfl
theorem qgs : ∀ {ks : List LK} {vs : List V} {x : Tp ks}, vTp ks vs = some x → tpV ks x = vs
 | [], [], _, _ => rfl
 | [k], [v], x, h => by
  have := qgr (show vLk k v = some x from h)
  show [lkV k x] = [v]
  rw [this]
 | k :: j :: r, v :: vs, x, h => by
  obtain ⟨a, ha, h⟩ := qi (show (vLk k v).ob (fun x => (vTp (j :: r) vs).ob fun y => some (x, y)) = some x from h)
  obtain ⟨b, hb, h⟩ := qi h
  cases h
  show lkV k a :: tpV (j :: r) b = v :: vs
  rw [qgr ha, qgs hb]
theorem qfI {M : Mem} {φ : Plc} {u : Value} : ∀ {k : LK} {x : k.T}, RL M φ u (lkV k x) → R0 M u (lkV k x)
 | .i _, _, h => h | .b, _, h => h | .s, _, h => h | .is _, _, h => h
theorem qgl {M : Mem} {φ : Plc} {u : Value} : ∀ {ks : List LK} {x : Tp ks} {j : Nat} {y : V}, (tpV ks x)[j]? = some y → RL M φ u y → R0 M u y
 | [], _, _, _, h, _ => by simp [tpV] at h
 | [k], x, 0, y, h, hr => by
  simp [tpV] at h; subst h; exact qfI hr
 | [k], x, j + 1, y, h, _ => by simp [tpV] at h
 | k :: k' :: r, x, 0, y, h, hr => by
  simp [tpV] at h; subst h; exact qfI hr
 | k :: k' :: r, x, j + 1, y, h, hr => by
  simp only [tpV, List.getElem?_cons_succ] at h; exact qgl h hr
theorem qgk : ∀ {ks : List LK} (x : Tp ks), (tpV ks x).length = ks.length
 | [], _ => rfl | [_], _ => rfl | k :: j :: r, x => by simp only [tpV, List.length_cons, qgk (ks := j :: r) x.2]
theorem qd8 {B : Nat → Blk} : ∀ {l l' : List V}, qa2 B l = some l' → l'.length = l.length ∧ ∀ (j : Nat) y, l'[j]? = some y → ∃ x, l[j]? = some x ∧ imm B none x = some y
 | [], l', h => by cases h; exact ⟨rfl, fun j y hy => by simp at hy⟩
 | v :: r, l', h => by
  obtain ⟨x, hx, h⟩ := qi (show (imm B none v).ob (fun x => (qa2 B r).ob fun l => some (x :: l)) = some l' from h)
  obtain ⟨l, hl, h⟩ := qi h
  cases h
  obtain ⟨h1, h2⟩ := qd8 hl
  refine ⟨by simp [h1], fun j y hy => ?_⟩
  cases j with
  | zero => simp at hy; subst hy; exact ⟨v, rfl, hx⟩
  | succ j => simpa using h2 j y (by simpa using hy)
theorem qfL {l : List V} {j : Nat} {x : V} (h : l[j]? = some x) {id : Nat} (hid : id ∈ qai x) : id ∈ qQ l := by
 induction l generalizing j with
 | nil => simp at h
 | cons a r ih =>
  simp only [qQ, List.mem_append]
  cases j with
  | zero => simp at h; subst h; exact .inl hid
  | succ j => exact .inr (ih (by simpa using h))
theorem qfv {M M' : Mem} {φ : Plc} {B B' : Nat → Blk} {w : World} {cs : Array Value} {l l' : List V} (h : qa2 B l = some l') (hc : qaH M φ cs l) (hM : Ext M M') (hr : Rel M' φ B' w)
  (hB : ∀ id ∈ qQ l, B' id = qn (B id)) : qaH M' φ cs l' := by
 obtain ⟨h1, h2⟩ := qd8 h
 refine ⟨by rw [hc.1, h1], fun j y hy => ?_⟩
 obtain ⟨x, hx, hi⟩ := h2 j y hy
 obtain ⟨u, hu, hru⟩ := hc.2 j x hx
 exact ⟨u, hu, (qd7 hi hru.rv hM hr (fun id hid => hB id (qfL hx hid))).1⟩
theorem qfi {M M' : Mem} {φ : Plc} {B B' : Nat → Blk} {w : World} {ks : List LK} {sz : Nat} (hks : ks.length = sz) (hM : Ext M M') (hr : Rel M' φ B' w) :
  ∀ (ps : List (Nat × Operand)) {ρ : Operand → Value} {i : Nat} {q : List (Tp ks) × List Nat} {cells : Array Value},
  (∀ p ∈ ps, RV M φ (ρ p.2) (g p.2)) → qbT B ks (ps.map fun p => (p.1, g p.2)) i = some q → (∀ id ∈ q.2, B' id = qn (B id)) → (i + q.1.length) * sz ≤ cells.size →
  ∃ cells', Instr.fill (fun i => some (i * sz, sz)) cells (ps.map fun p => (p.1, ρ p.2)) = some cells' ∧ cells'.size = cells.size ∧ (∀ x, x < i * sz → cells'[x]? = cells[x]?) ∧
   ∀ (m : Nat) y, q.1[m]? = some y → ∀ (j : Nat) z, (tpV ks y)[j]? = some z → ∃ u, cells'[(i + m) * sz + j]? = some u ∧ R0 M' u z
 | [], ρ, i, q, cells, _, h, _, _ => by
  cases h
  exact ⟨cells, rfl, rfl, fun _ _ => rfl, fun m y hy => by simp at hy⟩
 | (a, y) :: r, ρ, i, q, cells, hv, h, hB, hle => by
  have hy := hv (a, y) (by simp)
  simp only [List.map_cons, qbT] at h ⊢
  obtain ⟨hb, h1⟩ := qf h
  simp only [Bool.and_eq_true] at hb
  obtain rfl := qu hb.1
  have hd : qa3 (g y) = false := by simpa using hb.2
  obtain ⟨x, hx, h2⟩ := qi h1
  obtain ⟨t, ht, h3⟩ := qi h2
  obtain ⟨q', hq', h4⟩ := qi h3
  cases h4
  have hc0 := qcg hy hd
  have hc1 := qfv hx hc0 hM hr (fun id hid => hB id (by simp [hid]))
  have hxt := qgs ht
  have hsz : (ρ y).cells.size = sz := by rw [hc1.1, ← hxt, qgk, hks]
  simp only [List.length_cons] at hle
  have hle1 : i * sz + sz ≤ cells.size := by
   have : (i + (q'.1.length + 1)) * sz = i * sz + sz + q'.1.length * sz := by rw [Nat.add_mul, Nat.add_mul]; omega
   omega
  obtain ⟨p1, p2⟩ := qf2 (ρ y).cells cells (i * sz)
  obtain ⟨c', e1, e2, e3, e4⟩ := qfi hks hM hr r (ρ := ρ) (cells := (ρ y).cells.zipIdx.foldl (fun cs (q : Value × Nat) => cs.setIfInBounds (i * sz + q.2) q.1) cells)
   (fun p hp => hv p (by simp [hp])) hq' (fun id hid => hB id (by simp [hid])) (by rw [p1]; rw [show i + 1 + q'.1.length = i + (q'.1.length + 1) by omega]; exact hle)
  refine ⟨c', by rw [qd5 (off := i * sz) (size := sz) rfl hsz hle1]; exact e1, by rw [e2, p1], fun x hx' => ?_, fun m y' hy' j z hz => ?_⟩
  ·rw [e3 x (by rw [Nat.add_mul]; omega), p2, if_neg (by omega)]
  ·cases m with
   | zero =>
    simp at hy'
    subst hy'
    rw [hxt] at hz
    obtain ⟨u, hu, hru⟩ := hc1.2 j z hz
    have hlt : j < (ρ y).cells.size := (Array.getElem?_eq_some_iff.1 hu).1
    have hj : j < sz := by omega
    refine ⟨u, ?_, ?_⟩
    ·rw [Nat.add_zero, e3 _ (by rw [Nat.add_mul]; omega), p2, if_pos ⟨by omega, by omega, by omega⟩, show i * sz + j - i * sz = j by omega]
     exact hu
    ·exact qgl (ks := ks) (x := t) (by rw [hxt]; exact hz) hru
   | succ m =>
    obtain ⟨u, hu, hru⟩ := e4 m y' (by simpa using hy') j z hz
    exact ⟨u, by rw [show i + (m + 1) = i + 1 + m by omega]; exact hu, hru⟩
theorem qfm {B : Nat → Blk} {ns : List Nat} (h : ql.isNil (qT B ns) = true) : qT B ns = [] := by
 cases e : qT B ns with
 | nil => rfl
 | cons a r => rw [e] at h; cases h
theorem qg7 {B : Nat → Blk} {ns : List Nat} (h : ql.isNil (qT B ns) = true) (id : Nat) (hid : id ∈ ns) : qn (B id) = B id := by
 have h0 := qfm h
 have := qdz (B := B) (ns := ns) (id := id)
 rw [h0, if_pos hid] at this
 exact this.symm
theorem qff {k : IntKind} : ∀ {ps : List (Nat × V)} {l l' : List Int}, qbS k ps l = some l' → l'.length = l.length
 | [], l, l', h => by cases h; rfl
 | (j, v) :: r, l, l', h => by
  cases v <;> simp only [qbS] at h <;> try (cases h; done)
  have := qff (qf h).2
  simpa using this
theorem qhd {v : V} {id : Nat} (h : id ∈ qQ (qad v)) : id ∈ qG v := by
 cases v <;> simp [qad, qQ, qai, qG] at h ⊢ <;> exact h
theorem qfh {ks : List LK} {B' : Nat → Blk} : ∀ (ps : List (Nat × Operand)) {i : Nat} {q : List (Tp ks) × List Nat}, qbT B ks (ps.map fun p => (p.1, g p.2)) i = some q →
  (∀ p ∈ ps, ∀ id, id ∈ qG (g p.2) → B' id = B id) → ∀ id ∈ q.2, B' id = B id
 | [], i, q, h, _, id, hid => by cases h; simp at hid
 | (a, y) :: r, i, q, h, hp, id, hid => by
  simp only [List.map_cons, qbT] at h
  obtain ⟨_, h1⟩ := qf h
  obtain ⟨x, hx, h2⟩ := qi h1
  obtain ⟨t, ht, h3⟩ := qi h2
  obtain ⟨q', hq', h4⟩ := qi h3
  cases h4
  rcases List.mem_append.1 hid with h | h
  ·exact hp (a, y) (by simp) id (qhd h)
  ·exact qfh r hq' (fun p hp' => hp p (by simp [hp'])) id h
theorem qh6 {M M' : Mem} {φ : Plc} {B1 : Nat → Blk} {w : World} {ns : List Nat} {U : List (Nat × Blk)} {ks : List LK} {l : List (Tp ks)} {n sz e : Nat} {cs : Array Value} {nx : Nat} (hr : Rel M φ B1 w)
  (hr' : Rel M' φ (fun id => if id ∈ ns then qn (B1 id) else B1 id) w) (hs' : Stp M φ B1 w M' φ (fun id => if id ∈ ns then qn (B1 id) else B1 id) w)
  (hU : qp U B1 = fun id => if id ∈ ns then qn (B1 id) else B1 id) (hl : l.length = n) (hks : ks.length = sz) (hcs : cs.size = n * sz)
  (hget : ∀ (m : Nat) y, l[m]? = some y → ∀ (j : Nat) z, (tpV ks y)[j]? = some z → ∃ u, cs[m * sz + j]? = some u ∧ R0 M' u z) :
  qX M φ B1 w (.rows ks l) U nx nx (.slice (some ⟨w.heap.size, 0, none⟩) n n) (w.alloc (.cells cs e)) := by
 have hg : qt w (w.alloc (.cells cs e)) := (qt.refl w).alloc _
 have hr2 := hr'.grew hg
 let M2 : Mem := fun b o => if b = w.heap.size then cs[o]? else M' b o
 have hext : Ext M' M2 := fun b o v hv => by
  have := qbd (hr'.holds b o v hv)
  simp only [M2, if_neg (by omega : ¬ b = w.heap.size)]
  exact hv
 have hne : ∀ b o, b < w.heap.size → M2 b o = M' b o := fun b o h => by simp only [M2, if_neg (by omega : ¬ b = w.heap.size)]
 have hrel : Rel M2 φ (qp U B1) (w.alloc (.cells cs e)) := by
  rw [hU]
  refine ⟨fun b o v hv => ?_, fun id p hp => (hr2.blk id p hp).mono hext (qr.refl φ) (fun _ _ _ _ h => h), fun id p hp ha j hj => ?_, hr2.dis⟩
  ·by_cases hb : b = w.heap.size
   ·subst hb
    simp only [M2, if_true] at hv
    rw [World.cell?_alloc_new]
    exact hv
   ·simp only [M2, if_neg hb] at hv
    exact hr2.holds b o v hv
  ·obtain ⟨h1, h2, h3⟩ := hr2.own id p hp ha j hj
   refine ⟨h1, h2, ?_⟩
   rw [hne _ _ (hr'.own id p hp ha j hj).1.lt]
   exact h3
 have hstp : Stp M' φ (fun id => if id ∈ ns then qn (B1 id) else B1 id) w M2 φ (fun id => if id ∈ ns then qn (B1 id) else B1 id) (w.alloc (.cells cs e)) :=
  ⟨hext, hg.kp _, fun _ _ h => .inl h, fun b o v hv => by
   by_cases hb : b = w.heap.size
   ·exact .inr (.inr (by omega))
   ·simp only [M2, if_neg hb] at hv; exact .inl hv⟩
 refine ⟨M2, φ, ?_, hrel, by rw [hU]; exact hs'.trans hstp, fun _ _ => rfl, qr.refl φ⟩
 refine .inr ⟨w.heap.size, 0, n, by rw [hl], by omega, fun i x hx j y hy => ?_⟩
 obtain ⟨u, hu, hr0⟩ := hget i x hx j y hy
 refine ⟨u, ?_, hr0.mono hext⟩
 simp only [M2, if_true]
 rw [Nat.zero_add, hks]
 exact hu
theorem qht {t n : Nat} {parts : Array (Nat × Operand)} (hT : TOk P C.T) (h : ql C g B nx dr ⟨dst, .buildSlice t n parts, ty, pos, after, guard⟩ K = some r) :
  ∃ X U n', K X U n' = some r ∧ qh C P g B nx dr ⟨dst, .buildSlice t n parts, ty, pos, after, guard⟩ X U n' := by
 have cv : ∀ {M φ B' w ρ}, qP C P g B dr ⟨dst, .buildSlice t n parts, ty, pos, after, guard⟩ M φ B' w ρ → ∀ q ∈ parts.toList, RV M φ (ρ q.2) (g q.2) := fun hi q hq => hi.args q.2 (by simp [Op.operands]; exact ⟨q.1, by simpa using hq⟩)
 have ag : ∀ {M φ B' w ρ id}, qP C P g B dr ⟨dst, .buildSlice t n parts, ty, pos, after, guard⟩ M φ B' w ρ → ∀ q ∈ parts.toList, id ∈ qG (g q.2) → B' id = B id := fun hi q hq hid =>
  hi.agree _ (qap (y := q.2) (by simp [Op.operands]; exact ⟨q.1, by simpa using hq⟩) hid)
 simp only [ql] at h
 split at h
 ·rename_i k hsk
  obtain ⟨e, ti, hel, hk, he, ⟨I⟩⟩ := qcy hT hsk
  split at h
  ·rename_i l hfill
   obtain ⟨hn, h1⟩ := qf h
   have hn := Nat.le_of_ble_eq_true hn
   obtain ⟨hsz, hz⟩ := qcm I hk
   refine ⟨_, _, _, h1, Nat.le_succ _, fun M φ B' w ρ hi hf => ?_⟩
   obtain ⟨z1, hz1, hz2⟩ : ∃ z1 : Array Value, z1.size = n * ti.sz ∧ ∀ (j : Nat), j < n * ti.sz → z1[j]? = I.z.cells[j % ti.sz]? :=
    ⟨(List.replicate n (Value.int k 0)).toArray, by simp [hsz], fun j hj => by rw [hsz, Nat.mul_one] at hj; simp [hsz, hz, hj, Nat.mod_one]⟩
   have hc0 : ∀ z1 : Array Value, z1.size = n * ti.sz → (∀ (j : Nat), j < n * ti.sz → z1[j]? = I.z.cells[j % ti.sz]?) → qaH M φ z1 ((List.replicate n 0).map (V.int k)) := fun z1 a b => by
    refine ⟨by simp [a, hsz], fun j y hy => ?_⟩
    simp only [List.getElem?_map, List.getElem?_replicate] at hy
    split at hy
    ·rename_i hj
     simp at hy
     subst hy
     exact ⟨.int k 0, by rw [b j (by rw [hsz]; omega), hz, hsz, Nat.mod_one]; rfl, rfl, fun _ => Int.le_refl 0⟩
    ·simp at hy
   obtain ⟨cs, hcs, hrel⟩ := qfg (M := M) (φ := φ) parts.toList (cv hi) hfill (hc0 z1 hz1 hz2)
   have hall : ∀ z : Array Value, z.size = n * ti.sz → (∀ (j : Nat), j < n * ti.sz → z[j]? = I.z.cells[j % ti.sz]?) → z = z1 := fun z a b => by
    apply Array.ext_getElem?
    intro j
    by_cases hj : j < n * ti.sz
    ·rw [b j hj, hz2 j hj]
    ·rw [Array.getElem?_eq_none (by omega), Array.getElem?_eq_none (by omega)]
   have hrun := qe1 (n := n) (w := w) he I (by rw [hsz]; omega) (parts.map fun q => (q.1, ρ q.2)) cs (fun z a b => by
    rw [hall z a b, hsz]; simpa using hcs)
   have hln : l.length = n := by
    have h1 := qff hfill
    simpa using h1
   have := qde (nx := nx) (t := e) (k := k) (l := l) (arr := cs) hi.rel (hf nx (Nat.le_refl _) (Nat.lt_succ_self _)) (qt.refl w)
    (fun x hx => by
     obtain ⟨j, hj⟩ := List.getElem?_of_mem hx
     obtain ⟨u, _, hr⟩ := hrel.2 j (.int k x) (by simp [hj])
     exact hr.2) (by rw [hrel.1]; simp)
    (fun j x hx => by
     obtain ⟨u, hu, hr⟩ := hrel.2 j (.int k x) (by simp [hx])
     rw [hu, hr.1])
   unfold qW
   have e1 : (execOp ρ ⟨dst, .buildSlice t n parts, ty, pos, after, guard⟩).run P w = .ok (.value (.slice (some ⟨w.heap.size, 0, none⟩) n n)) (w.alloc (.cells cs e)) := by
    simp only [execOp, Sem.run_bind, hrun]
    rfl
   rw [e1]
   have e2 : cs.size = n := by rw [hrel.1]; simp [hln]
   rw [hln, e2] at this
   exact this
  ·cases h
 ·split at h
  ·rename_i ti hel
   obtain ⟨e, he, ⟨I⟩⟩ := qbL hT hel
   obtain ⟨ks, hks, h1⟩ := qi h
   obtain ⟨q, hq, h2⟩ := qi h1
   obtain ⟨hb, h3⟩ := qf h2
   simp only [Bool.and_eq_true] at hb
   obtain ⟨⟨⟨⟨hk1, hk2⟩, hk3⟩, hk4⟩, hk5⟩ := hb
   have hk1 := qu hk1
   have hk2 := qu hk2
   have hk3 := Nat.le_of_ble_eq_true hk3
   refine ⟨_, _, _, h3, Nat.le_refl _, fun M φ B' w ρ hi hf => ?_⟩
   have hBB : dr = false → B' = B := hi.seq
   have hnB : ∀ id ∈ q.2, B' id = B id := qfh parts.toList hq (fun p hp id hid => ag hi p hp hid)
   obtain ⟨M', hr', hs'⟩ := qbU hi.rel q.2
   have hU : qp (qT B q.2) B' = fun id => if id ∈ q.2 then qn (B' id) else B' id := by
    funext id
    cases hdr : dr with
    | false => rw [hBB hdr, qdz]
    | true =>
     rw [hdr] at hk5
     have h0 := qg7 (B := B) (ns := q.2) (by simpa using hk5)
     rw [qfm (B := B) (ns := q.2) (by simpa using hk5)]
     show B' id = _
     split
     ·rename_i hid; rw [hnB id hid, h0 id hid]
     ·rfl
   have hq1 : q.1.length = n := hk2
   let z1 : Array Value := (Array.range (n * ti.sz)).map (I.z.cells[· % I.z.cells.size]!)
   have hz1 : z1.size = n * ti.sz := by simp [z1]
   obtain ⟨cs, hcs, hcsz, _, hget⟩ := qfi (i := 0) (cells := z1) (g := g) (B := B) (sz := ti.sz) (ks := ks) (M := M) (φ := φ) (w := w) hk1 hs'.mem hr' parts.toList (ρ := ρ) (cv hi) hq (fun id hid => by simp only [hid, if_true]; rw [hnB id hid]) (by rw [Nat.zero_add, hq1, hz1]; exact Nat.le_refl _)
   have hall : ∀ z : Array Value, z.size = n * ti.sz → (∀ (j : Nat), j < n * ti.sz → z[j]? = I.z.cells[j % ti.sz]?) → z = z1 := fun z a b => by
    apply Array.ext_getElem?
    intro j
    by_cases hj : j < n * ti.sz
    ·have hs0 : 0 < ti.sz := by rcases Nat.eq_zero_or_pos ti.sz with h | h; (· rw [h] at hj; simp at hj); exact h
     have hlt : j % ti.sz < I.z.cells.size := by rw [I.hzn]; exact Nat.mod_lt _ hs0
     rw [b j hj]
     simp [z1, hj, I.hzn]
     rw [getElem!_pos I.z.cells (j % ti.sz) hlt]
     simp [hlt]
    ·rw [Array.getElem?_eq_none (by omega), Array.getElem?_eq_none (by omega)]
   have hrun := qe1 (n := n) (w := w) he I hk3 (parts.map fun q => (q.1, ρ q.2)) cs (fun z a b => by
    rw [hall z a b]; simpa using hcs)
   unfold qW
   have e1 : (execOp ρ ⟨dst, .buildSlice t n parts, ty, pos, after, guard⟩).run P w = .ok (.value (.slice (some ⟨w.heap.size, 0, none⟩) n n)) (w.alloc (.cells cs e)) := by
    simp only [execOp, Sem.run_bind, hrun]
    rfl
   rw [e1]
   exact qh6 hi.rel hr' hs' hU hq1 hk1 (by rw [hcsz, hz1]) (fun m y hy j z hz => by have := hget m y hy j z hz; rwa [Nat.zero_add] at this)
  ·cases h
end
theorem qfp (need : Nat) : ∀ (n c : Nat), c < need → Builtin.growBy need n c ≤ need + (need + 768) / 4
 | 0, c, h => by simp only [Builtin.growBy]; omega
 | n + 1, c, h => by
  simp only [Builtin.growBy]
  rw [if_neg (by omega)]
  by_cases hc : c + (c + 768) / 4 < need
  ·exact qfp need n _ hc
  ·have : Builtin.growBy need n (c + (c + 768) / 4) = c + (c + 768) / 4 := by
    cases n with
    | zero => rfl
    | succ n => simp only [Builtin.growBy]; rw [if_pos (by omega)]
   rw [this]
   omega
theorem qhf {need cap : Nat} (h : cap < need) : Builtin.nextslicecap need cap ≤ 2 * need + 384 ∧ (need ≤ 35184372088832 → Builtin.nextslicecap need cap * 4 ≤ 281474976710656) := by
 unfold Builtin.nextslicecap
 split
 ·constructor <;> omega
 ·split
  ·constructor <;> omega
  ·have := qfp need 4 cap h
   constructor <;> omega
def qa7 (w : World) (v : Value) (k : IntKind) (l : List Int) (a : Option Addr) (cap : Nat) : Prop :=
 v = .slice a l.length cap ∧ l.length ≤ cap ∧ ((a = none ∧ l = [] ∧ cap = 0) ∨ ∃ b o, a = some ⟨b, o, none⟩ ∧ ∀ (i : Nat) y, l[i]? = some y → w.cell? ⟨b, o + i, none⟩ = some (.int k y))
theorem qcZ {P : Program} {w : World} {v : Value} {k : IntKind} {l : List Int} {a : Option Addr} {cap : Nat} (h : qa7 w v k l a cap) : (Builtin.firstCells 1 l.length v).run P w = .ok (l.map (Value.int k)).toArray w := by
 obtain ⟨rfl, _, ⟨rfl, rfl, _⟩ | ⟨b, o, rfl, hc⟩⟩ := h
 ·rfl
 ·have := run_loadCells_list (P := P) w ⟨b, o, none⟩ (l.map (Value.int k)) (fun j v hv => by
   rw [List.getElem?_map] at hv
   cases hl : l[j]? with
   | none => rw [hl] at hv; cases hv
   | some y => rw [hl] at hv; cases hv; rw [qa1]; exact hc j y hl)
  rw [List.length_map] at this
  simp only [Builtin.firstCells, Nat.mul_one]
  exact this
theorem qX.pre {M M1 : Mem} {φ : Plc} {B B1 : Nat → Blk} {w : World} {x : V} {U U0 : List (Nat × Blk)} {nx n' : Nat} {v : Value} {w' : World} (hs : Stp M φ B w M1 φ B1 w) (h : qX M1 φ B1 w x U nx n' v w')
  (hU : ∀ id, qp U B1 id = qp U0 B id) : qX M φ B w x U0 nx n' v w' := by
 obtain ⟨M', φ', h1, h2, h3, h4, h5⟩ := h
 have : qp U B1 = qp U0 B := funext hU
 rw [this] at h2 h3
 exact ⟨M', φ', h1, h2, hs.trans h3, h4, h5⟩
theorem Stp.weaken {M : Mem} {φ : Plc} {B B1 : Nat → Blk} {w : World} (h : ∀ id, B1 id = B id ∨ B1 id = .gone) : Stp M φ B w M φ B1 w :=
 ⟨Ext.refl M, Kp.refl _ w, (by
  rintro b o ⟨id, p, j, hp, ha, hj, rfl, rfl⟩
  rcases h id with e | e
  ·rw [e] at ha; exact .inl ⟨id, p, j, hp, ha, hj, rfl, rfl⟩
  ·rw [e] at ha; cases ha), fun _ _ _ h => .inl h⟩
section
variable {C : Cfg} {P : Program} {g : Operand → V} {B : Nat → Blk} {nx : Nat} {dr : Bool} {dst : Option Tmp} {ty : TypeId} {pos : String} {after : Array Edge} {guard : Option (Nat × Bool)} {R : Type} {r : R} {K : KV R}
theorem qeS {t u e : Nat} {tys : List Nat} {ti ti' : TI} {k : IntKind} {w : World} {s x : Value} {l m : List Int} {a a' : Option Addr} {cap cap' : Nat}
  (he : ∀ w, (underlying t).run P w = .ok (.slice e) w) (I : qB P e ti) (hk : ti.d = .int k) (hw : ti.wd ≤ 4) (hu : ∃ e', ∀ w, (underlying u).run P w = .ok (.slice e') w)
  (hs : qa7 w s k l a cap) (hx : qa7 w x k m a' cap') (hgt : cap < l.length + m.length) (hle : l.length + m.length ≤ 35184372088832) :
  ∃ arr : Array Value, (Builtin.append_ (t :: u :: tys).toArray ty #[s, x]).run P w = .ok (.slice (some ⟨w.heap.size, 0, none⟩) (l.length + m.length) arr.size) (w.drew.alloc (.cells arr e)) ∧
   l.length + m.length ≤ arr.size ∧ ∀ (j : Nat) y, (l ++ m)[j]? = some y → arr[j]? = some (.int k y) := by
 obtain ⟨e', hu⟩ := hu
 obtain ⟨hsz, hz⟩ := qcm I hk
 let nc := (Question.appendCap (l.length + m.length) cap e).cut (w.tape w.drawn (.appendCap (l.length + m.length) cap e))
 have hnc : l.length + m.length ≤ nc := by simp only [nc, Question.cut]; omega
 have hs' : qa7 w.drew s k l a cap := hs
 have hx' : qa7 w.drew x k m a' cap' := hx
 let arr : Array Value := (l.map (Value.int k)).toArray ++ (m.map (Value.int k)).toArray ++ Builtin.zeroCells #[Value.int k 0] (nc - (l.length + m.length))
 have harr : arr.size = nc := by simp [arr, Builtin.zeroCells]; omega
 refine ⟨arr, ?_, by omega, fun j y hy => ?_⟩
 ·have f1 := qcZ (P := P) hs'
  have f2 := qcZ (P := P) hx'
  obtain ⟨es, hs1, hs2⟩ := hs
  obtain ⟨ex, hx1, hx2⟩ := hx
  have hn2 := (qhf hgt).2 hle
  have hb : ¬ (Builtin.nextslicecap (l.length + m.length) cap * I.i.bytes > 2 ^ 48) := by
   rw [I.hb]
   have : Builtin.nextslicecap (l.length + m.length) cap * ti.wd ≤ Builtin.nextslicecap (l.length + m.length) cap * 4 := Nat.mul_le_mul_left _ hw
   have e48 : (2 : Nat) ^ 48 = 281474976710656 := by decide
   rw [e48]; omega
  have hmax : ¬ (((l.length + m.length : Nat) : Int) > IntKind.i64.max ∧ (False ∨ I.i.bytes = 0)) := by
   have : IntKind.i64.max = 9223372036854775807 := by decide
   rw [this]; omega
  unfold Builtin.append_
  subst es ex
  simp only [List.getElem?_toArray, List.getElem?_cons_zero, List.getElem?_cons_succ, Sem.run_bind, he, hu, Result.andThen_ok, I.run_size, Sem.run_pure, Builtin.lenOf, Bool.false_eq_true, if_false, Bool.not_false, if_true, hsz]
  rw [if_neg (by omega)]
  simp only [Sem.run_bind, I.run_info, Result.andThen_ok]
  rw [if_neg hmax]
  simp only [Sem.run_bind, I.run_info, Result.andThen_ok]
  rw [if_neg hb]
  simp only [Sem.run_bind, run_choose, Question.forced, Bool.false_eq_true, if_false, Result.andThen_ok, I.run_info, run_askRoom, World.drew_eq, f1, f2, I.run_zero, hz, newRow, run_newObj, Sem.run_pure, World.alloc_eq]
  rw [harr]
  rfl
 ·rw [List.getElem?_append] at hy
  simp only [arr]
  rw [Array.append_assoc]
  split at hy
  ·rename_i hj
   rw [Array.getElem?_append_left (by simpa using hj)]
   simp [hy]
  ·rename_i hj
   have hj2 := (List.getElem?_eq_some_iff.1 hy).1
   rw [Array.getElem?_append_right (by simp; omega), Array.getElem?_append_left (by simp; omega)]
   simp [hy]
end
theorem qf8 (b : Nat) : ∀ (vs : List Value) (o : Nat) (w : World) (k : Nat), k ≠ b → (w.setCells b o vs).heap[k]? = w.heap[k]?
 | [], _, _, _, _ => rfl
 | v :: r, o, w, k, h => by rw [World.setCells, qf8 b r _ _ k h, Below.heap_setCell _ _ _ _ h]
theorem qf9 (b : Nat) : ∀ (vs : List Value) (o : Nat) (w : World), (w.setCells b o vs).os = w.os ∧ (w.setCells b o vs).tape = w.tape ∧ (w.setCells b o vs).output = w.output ∧ (w.setCells b o vs).heap.size = w.heap.size
 | [], _, _ => ⟨rfl, rfl, rfl, rfl⟩
 | v :: r, o, w => by
  obtain ⟨h1, h2, h3, h4⟩ := qf9 b r (o + 1) (w.setCell ⟨b, o, none⟩ v)
  exact ⟨h1, h2, h3, by rw [World.setCells, h4]; simp⟩
theorem qh9 {w : World} {a : Addr} {v : Value} {b' : Nat} {s : ByteArray} {p : Nat} (h : w.heap[b']? = some (.stringIter s p)) : (w.setCell a v).heap[b']? = some (.stringIter s p) := by
 by_cases e : b' = a.block
 ·subst e
  simp [World.setCell, Array.getElem?_modify, h]
 ·rw [Below.heap_setCell _ _ _ _ e]; exact h
theorem qdp {b : Nat} {b' : Nat} {s : ByteArray} {p : Nat} : ∀ {vs : List Value} {o : Nat} {w : World}, w.heap[b']? = some (.stringIter s p) → (w.setCells b o vs).heap[b']? = some (.stringIter s p)
 | [], _, _, h => h
 | v :: r, o, w, h => qdp (vs := r) (qh9 h)
theorem qia {w : World} {b o : Nat} {vs : List Value} {X : Nat → Nat → Prop} (hX : ∀ j, j < vs.length → X b (o + j)) : Kp X w (w.setCells b o vs) := by
 obtain ⟨h1, h2, h3, h4⟩ := qf9 b vs o w
 refine ⟨h1, h2, h3, by rw [h4]; exact Nat.le_refl _, fun k hk hx => ?_, fun b' o' v hv hx => ?_, fun b' o' v hv hx => World.frozen?_setCells b vs o w _, fun b' s p hv hx => ?_⟩
 ·by_cases e : k = b
  ·subst e
   cases vs with
   | nil => rfl
   | cons v r => exact absurd (hX 0 (by simp)) (hx _)
  ·exact qf8 b vs o w k e
 ·rw [World.cell?_setCells_out b vs o w _ (fun h _ => ?_)]
  ·exact hv
  ·simp only at h ⊢
   subst h
   rcases Nat.lt_or_ge o' o with h | h
   ·exact .inl h
   ·rcases Nat.lt_or_ge o' (o + vs.length) with h' | h'
    ·exact absurd (by have := hX (o' - o) (by omega); rwa [show o + (o' - o) = o' by omega] at this) hx
    ·exact .inr h'
 ·exact qdp hv
theorem qeC {M : Mem} {φ : Plc} {B : Nat → Blk} {w : World} {id id2 : Nat} {p p2 : Pl} {off : Nat} {vs : List Value} {blk2 : Blk} (hr : Rel M φ B w) (hφ : φ id = some p) (ha : qs (B id) = true)
  (hfit : off + vs.length ≤ p.c) (hid : (id2 = id ∧ p2 = p) ∨ φ id2 = none) (hb : p2.b = p.b) (hs : p2.s = p.s) (hc : p2.c = p.c) (hi1 : qw (B id) = false)
  (hblk : ∀ φ', qr φ φ' → RB M φ' (w.setCells p.b (p.s + off) vs) p2 blk2) (hi2 : qw blk2 = false := by rfl) :
  Rel M (qI φ id2 p2) (fun x => if x = id2 then blk2 else if x = id then .gone else B x) (w.setCells p.b (p.s + off) vs) ∧
  Stp M φ B w M (qI φ id2 p2) (fun x => if x = id2 then blk2 else if x = id then .gone else B x) (w.setCells p.b (p.s + off) vs) ∧ qr φ (qI φ id2 p2) := by
 have hext : qr φ (qI φ id2 p2) := by
  rcases hid with ⟨rfl, rfl⟩ | h
  ·intro x q hq
   unfold qI
   split
   ·rename_i e; subst e; rw [hφ] at hq; exact hq
   ·exact hq
  ·exact qdq h
 have hown := hr.own id p hφ ha
 rw [hi1] at hown
 have hX : ∀ j, j < vs.length → qK φ B p.b (p.s + off + j) := fun j hj => ⟨id, p, off + j, hφ, ha, by omega, rfl, by omega⟩
 have hkp : Kp (qK φ B) w (w.setCells p.b (p.s + off) vs) := qia hX
 have out : ∀ b o, (∀ j, j < p.c → ¬ (b = p.b ∧ o = p.s + j)) → (w.setCells p.b (p.s + off) vs).cell? ⟨b, o, none⟩ = w.cell? ⟨b, o, none⟩ := fun b o h => by
  refine World.cell?_setCells_out _ _ _ _ _ (fun h1 _ => ?_)
  simp only at h1 ⊢
  rcases Nat.lt_or_ge o (p.s + off) with h2 | h2
  ·exact .inl h2
  ·rcases Nat.lt_or_ge o (p.s + off + vs.length) with h3 | h3
   ·exact absurd ⟨h1, by omega⟩ (h (o - p.s) (by omega))
   ·exact .inr h3
 have othercell : ∀ x q, x ≠ id → φ x = some q → qs (B x) = true → ∀ j, j < q.c → (w.setCells p.b (p.s + off) vs).cell? ⟨q.b, q.s + j, none⟩ = w.cell? ⟨q.b, q.s + j, none⟩ := fun x q hx hq hal j hj =>
  out _ _ fun i hi h => hr.dis x id q p hx hq hφ hal ha j i hj hi h.1 h.2
 have inside : ∀ j, j < p.c → ∃ u, (w.setCells p.b (p.s + off) vs).cell? ⟨p.b, p.s + j, none⟩ = some u := fun j hj => by
  obtain ⟨⟨u, hu⟩, _⟩ := hown j hj
  by_cases h : off ≤ j ∧ j < off + vs.length
  ·have := World.cell?_setCells_in p.b vs (p.s + off) w (fun i hi => by
    obtain ⟨⟨u, hu⟩, _⟩ := hown (off + i) (by omega)
    rw [Nat.add_assoc, hu]; rfl) (j - off) (by omega)
   exact ⟨_, by rw [show p.s + j = p.s + off + (j - off) by omega]; exact this⟩
  ·refine ⟨u, ?_⟩
   rw [World.cell?_setCells_out]
   ·exact hu
   ·intro _ _
    simp only
    omega
 refine ⟨⟨?_, ?_, ?_, ?_⟩, ⟨Ext.refl M, hkp, ?_, fun _ _ _ h => .inl h⟩, hext⟩
 ·intro b o v hv
  rw [out b o (fun j hj h => by obtain ⟨rfl, rfl⟩ := h; rw [(hown j hj).2.2] at hv; cases hv)]
  exact hr.holds b o v hv
 ·intro x q hq
  by_cases hx2 : x = id2
  ·subst hx2
   rw [qaa] at hq; cases hq
   simp only [if_true]
   exact hblk _ hext
  ·rw [qaD hx2] at hq
   simp only [if_neg hx2]
   by_cases hx : x = id
   ·simp only [if_pos hx]; trivial
   ·simp only [if_neg hx]
    refine (hr.blk x q hq).mono (Ext.refl M) hext (fun hal j v hj hv => ?_) (fun _ _ _ _ _ h => qdp h)
    rw [othercell x q hx hq hal j hj]; exact hv
 ·intro x q hq hal
  by_cases hx2 : x = id2
  ·subst hx2
   rw [qaa] at hq; cases hq
   simp only [if_true, hi2]
   intro j hj
   rw [hb, hs]
   rw [hc] at hj
   exact ⟨inside j hj, by rw [World.frozen?_setCells]; exact (hown j hj).2.1, (hown j hj).2.2⟩
  ·rw [qaD hx2] at hq
   simp only [if_neg hx2] at hal ⊢
   by_cases hx : x = id
   ·simp only [if_pos hx] at hal; cases hal
   ·simp only [if_neg hx] at hal ⊢
    intro j hj
    obtain ⟨h1, h2, h3⟩ := hr.own x q hq hal j hj
    refine ⟨?_, by rw [World.frozen?_setCells]; exact h2, h3⟩
    revert h1
    cases qw (B x) with
    | false => rintro ⟨u, hu⟩; exact ⟨u, by rw [othercell x q hx hq hal j hj]; exact hu⟩
    | true => rintro ⟨e, s, p', h⟩; exact ⟨e, s, p', qdp h⟩
 ·intro x x' q q' hne hq hq' hal hal' j j' hj hj' hbb
  by_cases hx2 : x = id2
  ·have hx2' : x' ≠ id2 := fun h => hne (hx2.trans h.symm)
   subst hx2
   rw [qaa] at hq; cases hq
   rw [qaD hx2'] at hq'
   simp only [if_neg hx2'] at hal'
   by_cases hx' : x' = id
   ·simp only [if_pos hx'] at hal'; cases hal'
   ·simp only [if_neg hx'] at hal'
    rw [hs]
    rw [hc] at hj
    exact hr.dis id x' p q' (fun h => hx' h.symm) hφ hq' ha hal' j j' hj hj' (hb ▸ hbb)
  ·rw [qaD hx2] at hq
   simp only [if_neg hx2] at hal
   by_cases hx : x = id
   ·simp only [if_pos hx] at hal; cases hal
   ·simp only [if_neg hx] at hal
    by_cases hx2' : x' = id2
    ·subst hx2'
     rw [qaa] at hq'; cases hq'
     rw [hs]
     rw [hc] at hj'
     exact hr.dis x id q p hx hq hφ hal ha j j' hj hj' (hbb.trans hb)
    ·rw [qaD hx2'] at hq'
     simp only [if_neg hx2'] at hal'
     by_cases hx' : x' = id
     ·simp only [if_pos hx'] at hal'; cases hal'
     ·simp only [if_neg hx'] at hal'
      exact hr.dis x x' q q' hne hq hq' hal hal' j j' hj hj' hbb
 ·rintro b o ⟨x, q, j, hq, hal, hj, rfl, rfl⟩
  by_cases hx2 : x = id2
  ·subst hx2
   rw [qaa] at hq; cases hq
   rw [hc] at hj
   exact .inl ⟨id, p, j, hφ, ha, hj, hb, by rw [hs]⟩
  ·rw [qaD hx2] at hq
   simp only [if_neg hx2] at hal
   by_cases hx : x = id
   ·simp only [if_pos hx] at hal; cases hal
   ·simp only [if_neg hx] at hal
    exact .inl ⟨x, q, j, hq, hal, hj, rfl, rfl⟩
section
variable {C : Cfg} {P : Program} {g : Operand → V} {B : Nat → Blk} {nx : Nat} {dr : Bool} {dst : Option Tmp} {ty : TypeId} {pos : String} {after : Array Edge} {guard : Option (Nat × Bool)} {R : Type} {r : R} {K : KV R}
theorem qdy {n id : Nat} {b : Blk} {U : List (Nat × Blk)} {B : Nat → Blk} : qp ((n, b) :: U) B id = if id = n then b else qp U B id := by
 simp only [qp]
 by_cases h : id = n
 ·subst h; simp
 ·have : Nat.beq n id = false := by cases e : Nat.beq n id; rfl; exact absurd (qu e).symm h
  simp [this, h]
theorem qeT {t u e : Nat} {tys : List Nat} {ti : TI} {k : IntKind} {w : World} {s x : Value} {cap' : Nat} {a' : Option Addr}
  (he : ∀ w, (underlying t).run P w = .ok (.slice e) w) (I : qB P e ti) (hk : ti.d = .int k) (hu : ∃ e', ∀ w, (underlying u).run P w = .ok (.slice e') w)
  (hs : s = .slice none 0 0) (hx : qa7 w x k [] a' cap') :
  (Builtin.append_ (t :: u :: tys).toArray ty #[s, x]).run P w = .ok (.slice none 0 0) w := by
 obtain ⟨e', hu⟩ := hu
 obtain ⟨hsz, hz⟩ := qcm I hk
 have f2 := qcZ (P := P) hx
 obtain ⟨ex, hx1, hx2⟩ := hx
 subst hs ex
 unfold Builtin.append_
 simp only [List.length_nil] at f2 ⊢
 simp only [List.getElem?_toArray, List.getElem?_cons_zero, List.getElem?_cons_succ, Sem.run_bind, he, hu, Result.andThen_ok, I.run_size, Sem.run_pure, Builtin.lenOf, Bool.false_eq_true, if_false, Bool.not_false, if_true, hsz]
 rw [if_pos (by omega)]
 simp only [Sem.run_bind, f2, Result.andThen_ok, Sem.run_pure]
theorem qgG {t u e : Nat} {tys : List Nat} {ti : TI} {k : IntKind} {w : World} {s x : Value} {l m : List Int} {b o cap cap' : Nat} {a' : Option Addr}
  (he : ∀ w, (underlying t).run P w = .ok (.slice e) w) (I : qB P e ti) (hk : ti.d = .int k) (hu : ∃ e', ∀ w, (underlying u).run P w = .ok (.slice e') w)
  (hs : s = .slice (some ⟨b, o, none⟩) l.length cap) (hx : qa7 w x k m a' cap') (hle : l.length + m.length ≤ cap)
  (hst : ∀ j, j < m.length → (∃ u, w.cell? ⟨b, o + l.length + j, none⟩ = some u) ∧ w.frozen? ⟨b, o + l.length + j, none⟩ = false) :
  (Builtin.append_ (t :: u :: tys).toArray ty #[s, x]).run P w = .ok (.slice (some ⟨b, o, none⟩) (l.length + m.length) cap) (w.setCells b (o + l.length) (m.map (Value.int k))) := by
 obtain ⟨e', hu⟩ := hu
 obtain ⟨hsz, hz⟩ := qcm I hk
 have f2 := qcZ (P := P) hx
 obtain ⟨ex, hx1, hx2⟩ := hx
 have st := run_storeCells_cells (P := P) b (o + l.length) (m.map (Value.int k)) 0 w (fun j hj => by rw [Nat.add_zero]; rw [(hst j (by simpa using hj)).1.choose_spec]; rfl) (fun j hj => by rw [Nat.add_zero]; exact (hst j (by simpa using hj)).2)
  (fun v hv => by obtain ⟨y, _, rfl⟩ := List.mem_map.1 hv; rfl)
 subst hs ex
 unfold Builtin.append_
 simp only [List.getElem?_toArray, List.getElem?_cons_zero, List.getElem?_cons_succ, Sem.run_bind, he, hu, Result.andThen_ok, I.run_size, Sem.run_pure, Builtin.lenOf, Bool.false_eq_true, if_false, Bool.not_false, if_true, hsz]
 rw [if_pos hle]
 simp only [Sem.run_bind, f2, Result.andThen_ok, Sem.run_pure, Nat.mul_one, qa1, st, Nat.add_zero]
theorem qfN {M : Mem} {φ : Plc} {w : World} {B' : Nat → Blk} {k : IntKind} (hr : Rel M φ B' w) (hφ : φ nx = none) :
  qX M φ B' w (.own nx) [(nx, .ints k [] true)] nx (nx + 1) (.slice none 0 0) w := by
 have hext := qdq (p := ⟨0, 0, 0, 0, 0, true⟩) hφ
 refine ⟨M, qI φ nx ⟨0, 0, 0, 0, 0, true⟩, ⟨_, qaa, rfl⟩, ⟨hr.holds, ?_, ?_, ?_⟩, ⟨Ext.refl M, Kp.refl _ w, ?_, fun _ _ _ h => .inl h⟩, fun id hid => qaD (by omega), hext⟩
 ·intro id q hq
  rw [qZ]
  rcases qar hq with ⟨rfl, rfl⟩ | ⟨hne, hq⟩
  ·rw [if_pos rfl]
   exact ⟨rfl, Nat.le_refl _, fun _ => ⟨rfl, rfl⟩, fun h => (by cases h), fun _ => rfl, Nat.le_refl _, fun j x hx => (by cases hx)⟩
  ·rw [if_neg hne]; exact (hr.blk id q hq).mono (Ext.refl M) hext (fun _ _ _ _ h => h)
 ·intro id q hq ha
  rw [qZ] at ha ⊢
  rcases qar hq with ⟨rfl, rfl⟩ | ⟨hne, hq⟩
  ·intro j hj; simp at hj
  ·rw [if_neg hne] at ha ⊢; exact hr.own id q hq ha
 ·intro id id' q q' hne hq hq' ha ha' j j' hj hj' hbb
  rw [qZ] at ha ha'
  rcases qar hq with ⟨e1, e2⟩ | ⟨h1, hq1⟩ <;> rcases qar hq' with ⟨e3, e4⟩ | ⟨h2, hq2⟩
  ·exact absurd (e1.trans e3.symm) hne
  ·subst e2; simp at hj
  ·subst e4; simp at hj'
  ·rw [if_neg h1] at ha
   rw [if_neg h2] at ha'
   exact hr.dis id id' q q' hne hq1 hq2 ha ha' j j' hj hj' hbb
 ·rintro b o ⟨id, q, j, hq, ha, hj, rfl, rfl⟩
  rw [qZ] at ha
  rcases qar hq with ⟨rfl, rfl⟩ | ⟨h1, hq⟩
  ·simp at hj
  ·rw [if_neg h1] at ha
   exact .inl ⟨id, q, j, hq, ha, hj, rfl, rfl⟩
theorem qho {x y : Operand} {t u : Nat} {tys : List Nat} (hT : TOk P C.T) (h : ql C g B nx dr ⟨dst, .call ⟨.builtin .append, #[x, y], (t :: u :: tys).toArray⟩, ty, pos, after, guard⟩ K = some r) :
  ∃ X U n', K X U n' = some r ∧ qh C P g B nx dr ⟨dst, .call ⟨.builtin .append, #[x, y], (t :: u :: tys).toArray⟩, ty, pos, after, guard⟩ X U n' := by
 have cx : ∀ {M φ B' w ρ}, qP C P g B dr ⟨dst, .call ⟨.builtin .append, #[x, y], (t :: u :: tys).toArray⟩, ty, pos, after, guard⟩ M φ B' w ρ → RV M φ (ρ x) (g x) := fun hi => hi.args x (by simp [Op.operands, Call.operands])
 have cy : ∀ {M φ B' w ρ}, qP C P g B dr ⟨dst, .call ⟨.builtin .append, #[x, y], (t :: u :: tys).toArray⟩, ty, pos, after, guard⟩ M φ B' w ρ → RV M φ (ρ y) (g y) := fun hi => hi.args y (by simp [Op.operands, Call.operands])
 have run : ∀ {w w' : World} {ρ : Operand → Value} {v : Value}, (Builtin.append_ (t :: u :: tys).toArray ty #[ρ x, ρ y]).run P w = .ok v w' →
   (execOp ρ ⟨dst, .call ⟨.builtin .append, #[x, y], (t :: u :: tys).toArray⟩, ty, pos, after, guard⟩).run P w = .ok (.value v) w' := by
  intro w w' ρ v he
  simp only [execOp, resolve, Sem.run_bind, Sem.run_pure, Result.andThen_ok, invoke]
  have e : Array.map ρ #[x, y] = #[ρ x, ρ y] := by simp
  rw [e]
  show (do pure (.value (← Builtin.append_ (t :: u :: tys).toArray ty #[ρ x, ρ y])) : Sem Next).run P w = _
  rw [Sem.run_bind, he]; rfl
 simp only [ql] at h
 split at h
 ·rename_i k k' m hsk hrow
  obtain ⟨hb, h1⟩ := qf h
  clear h
  simp only [Bool.and_eq_true] at hb
  obtain ⟨⟨hk1, hw⟩, hue⟩ := hb
  obtain rfl := qE hk1
  obtain ⟨e, ti, hel, hk, he, ⟨I⟩⟩ := qcy hT hsk
  obtain ⟨ti', hue⟩ := qc4 hue
  obtain ⟨e', hu, _⟩ := qbL hT hue
  rw [hel] at hw
  have hw4 : ti.wd ≤ 4 := Nat.le_of_ble_eq_true hw
  have hrowAt : ∀ {M φ B' w ρ}, qP C P g B dr ⟨dst, .call ⟨.builtin .append, #[x, y], (t :: u :: tys).toArray⟩, ty, pos, after, guard⟩ M φ B' w ρ → ∃ a cap, qa7 w (ρ y) k m a cap ∧ ∀ z ∈ m, inr k z := fun hi => by
   obtain ⟨a, cap, h1, h2, h3, h4⟩ := qeD hrow (cy hi) hi.rel (fun id hid => hi.agree id (qap (y := y) (by simp [Op.operands, Call.operands]) hid))
   exact ⟨a, cap, ⟨h1, h2, h4⟩, h3⟩
  split at h1
  ·rename_i kk hgx
   obtain ⟨hlen, h2⟩ := qx h1
   refine ⟨_, _, _, h2, Nat.le_succ _, fun M φ B' w ρ hi hf => ?_⟩
   have hv := cx hi
   rw [hgx] at hv
   have hv : ρ x = .slice none 0 0 := hv
   obtain ⟨a, cap, hra, hin⟩ := hrowAt hi
   have hφ := hf nx (Nat.le_refl _) (Nat.lt_succ_self _)
   unfold qW
   by_cases h0 : m.length = 0
   ·obtain rfl := List.length_eq_zero_iff.1 h0
    rw [run (qeT he I hk ⟨e', hu⟩ hv hra)]
    exact qfN hi.rel hφ
   ·obtain ⟨arr, hrun, hsz, harr⟩ := qeS (ty := ty) (tys := tys) (l := []) (a := none) (cap := 0) he I hk hw4 ⟨e', hu⟩ ⟨hv, Nat.le_refl _, .inl ⟨rfl, rfl, rfl⟩⟩ hra (by simp; omega) (by simp; omega) (ti' := ti)
    rw [run hrun]
    simp only [List.length_nil, Nat.zero_add, List.nil_append] at hsz harr ⊢
    exact qde hi.rel hφ (qt.refl w).drew hin hsz harr
  ·rename_i id hgx
   split at h1
   ·rename_i k2 l hB
    obtain ⟨hk2, h1⟩ := qf h1
    obtain ⟨hlen, h2⟩ := qx h1
    obtain rfl := qE hk2
    have al : qs (B id) = true := by rw [hB]; rfl
    refine ⟨_, _, _, h2, Nat.le_succ _, fun M φ B' w ρ hi hf => ?_⟩
    have hv := cx hi
    rw [hgx] at hv
    obtain ⟨p, hp, hv⟩ := hv
    obtain ⟨a, cap, hra, hin⟩ := hrowAt hi
    have hφ := hf nx (Nat.le_refl _) (Nat.lt_succ_self _)
    have hne : id ≠ nx := fun e => by subst e; rw [hφ] at hp; cases hp
    have hB' : B' id = .ints k l true := by rw [← hB]; exact hi.agree id (qap (y := x) (by simp [Op.operands, Call.operands]) (by rw [hgx]; simp [qG]))
    have hb := hi.rel.blk id p hp
    rw [hB'] at hb
    obtain ⟨b1, b2, b3, b4, b5, b6, b7⟩ := hb
    have al' : qs (B' id) = true := by rw [hB']; rfl
    have hown := hi.rel.own id p hp al'
    rw [hB'] at hown
    have hinl : ∀ z ∈ l, inr k z := fun z hz => by obtain ⟨j, hj⟩ := List.getElem?_of_mem hz; exact (b7 j z hj).2
    have hinlm : ∀ z ∈ l ++ m, inr k z := fun z hz => by rcases List.mem_append.1 hz with h | h; (· exact hinl z h); exact hin z h
    unfold qW
    by_cases hfit : l.length + m.length ≤ p.cap
    ·cases hn : p.nl
     ·
      have hcap := b4 hn rfl
      have hs0 : ρ x = .slice (some ⟨p.b, p.s, none⟩) l.length p.cap := by rw [hv, Pl.val, hn, b1]; rfl
      rw [run (qgG he I hk ⟨e', hu⟩ hs0 hra hfit (fun j hj => by
       obtain ⟨h1, h2, _⟩ := hown (l.length + j) (by omega)
       rw [Nat.add_assoc]; exact ⟨h1, h2⟩))]
      have key := qeC (id2 := nx) (p2 := { p with len := l.length + m.length }) (off := l.length) (vs := m.map (Value.int k)) (blk2 := .ints k (l ++ m) true) hi.rel hp al' (by simp; omega) (.inr hφ) rfl rfl rfl (by rw [hB']; rfl) (fun φ' _ => by
       refine ⟨by simp, hfit, fun h => (by rw [hn] at h; cases h), fun _ _ => hcap, fun h => (by cases h), by simp; omega, fun j z hz => ⟨?_, hinlm z (List.mem_of_getElem? hz)⟩⟩
       rw [List.getElem?_append] at hz
       split at hz
       ·rename_i hj
        rw [World.cell?_setCells_out]
        ·exact (b7 j z hz).1
        ·intro _ _; simp only; omega
       ·rename_i hj
        have hj2 := (List.getElem?_eq_some_iff.1 hz).1
        have := World.cell?_setCells_in p.b (m.map (Value.int k)) (p.s + l.length) w (fun i hi => by
         obtain ⟨⟨u, hu⟩, _⟩ := hown (l.length + i) (by simp at hi; omega)
         rw [Nat.add_assoc, hu]; rfl) (j - l.length) (by simpa using hj2)
        rw [show p.s + j = p.s + l.length + (j - l.length) by omega]
        rw [this]
        have e : m[j - l.length] = z := (List.getElem?_eq_some_iff.1 hz).2
        simp [e])
      obtain ⟨r1, r2, r3⟩ := key
      have eU : qp [(nx, .ints k (l ++ m) true), (id, .gone)] B' = (fun z => if z = nx then Blk.ints k (l ++ m) true else if z = id then .gone else B' z) := by
       funext z
       rw [qdy, qZ]
      refine ⟨M, qI φ nx { p with len := l.length + m.length }, ⟨_, qaa, ?_⟩, ?_, ?_, fun z hz => qaD (by omega), r3⟩
      ·rw [Pl.val, if_neg (by rw [hn]; decide)]
      ·rw [eU]; exact r1
      ·rw [eU]; exact r2
     ·
      obtain ⟨hc, hcap⟩ := b3 hn
      have hm : m = [] := List.length_eq_zero_iff.1 (by omega)
      have hl : l = [] := List.length_eq_zero_iff.1 (by omega)
      subst hm hl
      have hs0 : ρ x = .slice none 0 0 := by rw [hv, Pl.val, if_pos hn]
      rw [run (qeT he I hk ⟨e', hu⟩ hs0 hra)]
      have w1 := Rel.weaken (B' := qp [(id, .gone)] B') hi.rel (fun z => by rw [qZ]; split <;> simp)
      exact qX.pre (Stp.weaken (B1 := qp [(id, .gone)] B') (fun z => by rw [qZ]; split <;> simp)) (qfN w1 hφ) (fun z => rfl)
    ·have hrl : qa7 w (ρ x) k l (if p.nl = true then none else some ⟨p.b, p.s, none⟩) p.cap := by
      rw [hv]
      unfold Pl.val
      cases hn : p.nl
      ·exact ⟨by rw [← b1]; rfl, by omega, .inr ⟨_, _, rfl, fun i y hy => (b7 i y hy).1⟩⟩
      ·obtain ⟨hc, hcap⟩ := b3 hn
       have hl : l = [] := List.length_eq_zero_iff.1 (by omega)
       subst hl
       exact ⟨by rw [hcap]; rfl, by omega, .inl ⟨rfl, rfl, hcap⟩⟩
     obtain ⟨arr, hrun, hsz, harr⟩ := qeS (ty := ty) (tys := tys) he I hk hw4 ⟨e', hu⟩ hrl hra (by omega) (by omega) (ti' := ti)
     rw [run hrun]
     have w1 := Rel.weaken (B' := qp [(id, .gone)] B') hi.rel (fun z => by rw [qZ]; split <;> simp)
     refine qX.pre (Stp.weaken (B1 := qp [(id, .gone)] B') (fun z => by rw [qZ]; split <;> simp)) ?_ (fun z => (qeK (U := [(nx, .ints k (l ++ m) true)]) (U' := [(id, .gone)])).symm)
     have := qde (nx := nx) (t := e) (k := k) (l := l ++ m) (arr := arr) w1 hφ (qt.refl w).drew hinlm (by simpa using hsz) harr
     rw [List.length_append] at this
     exact this
   ·cases h1
  ·cases h1
 ·cases h
end
section
variable {C : Cfg} {P : Program} {g : Operand → V} {B : Nat → Blk} {nx : Nat} {dr : Bool} {dst : Option Tmp} {ty : TypeId} {pos : String} {after : Array Edge} {guard : Option (Nat × Bool)} {R : Type} {r : R} {K : KV R}
theorem qgj : ∀ {l : List V}, qdv l = true → ∀ y ∈ l, qa3 y = false
 | [], _, _, h => by cases h
 | x :: r, h, y, hy => by
  simp only [qdv, Bool.and_eq_true, Bool.not_eq_true'] at h
  rcases List.mem_cons.1 hy with rfl | hy
  ·exact h.1
  ·exact qgj h.2 y hy
theorem qhN {t : TypeId} {a x : Operand} (hT : TOk P C.T) (h : ql C g B nx dr ⟨dst, .store t a x, ty, pos, after, guard⟩ K = some r) :
  ∃ X U n', K X U n' = some r ∧ qh C P g B nx dr ⟨dst, .store t a x, ty, pos, after, guard⟩ X U n' := by
 have ca : ∀ {M φ B' w ρ}, qP C P g B dr ⟨dst, .store t a x, ty, pos, after, guard⟩ M φ B' w ρ → RV M φ (ρ a) (g a) := fun hi => hi.args a (by simp [Op.operands])
 have cx : ∀ {M φ B' w ρ}, qP C P g B dr ⟨dst, .store t a x, ty, pos, after, guard⟩ M φ B' w ρ → RV M φ (ρ x) (g x) := fun hi => hi.args x (by simp [Op.operands])
 have ag : ∀ {M φ B' w ρ id}, qP C P g B dr ⟨dst, .store t a x, ty, pos, after, guard⟩ M φ B' w ρ → id ∈ qG (g a) → B' id = B id := fun hi hid => hi.agree _ (qap (y := a) (by simp [Op.operands]) hid)
 simp only [ql] at h
 obtain ⟨ti, hti, h1⟩ := qi h
 obtain ⟨U, hU, h2⟩ := qi h1
 obtain ⟨I⟩ := qM (hT _ _ hti)
 have run : ∀ {w : World} {ρ : Operand → Value} {p : Pl} {off : Nat}, ρ a = .pointer (some ⟨p.b, p.s + off, none⟩) → (ρ x).cells.size = ti.sz → (∀ j, j < ti.sz → (∃ u, w.cell? ⟨p.b, p.s + off + j, none⟩ = some u) ∧ w.frozen? ⟨p.b, p.s + off + j, none⟩ = false) →
   (∀ v ∈ (ρ x).cells.toList, v.oneCell' = true) → (execOp ρ ⟨dst, .store t a x, ty, pos, after, guard⟩).run P w = .ok .skip (w.setCells p.b (p.s + off) (ρ x).cells.toList) := by
  intro w ρ p off he hs hc h1
  have st := run_storeCells_cells (P := P) p.b (p.s + off) (ρ x).cells.toList 0 w (fun j hj => by rw [Nat.add_zero]; rw [(hc j (by simpa [hs] using hj)).1.choose_spec]; rfl) (fun j hj => by rw [Nat.add_zero]; exact (hc j (by simpa [hs] using hj)).2) h1
  simp only [execOp, Instr.storeAt, he, Instr.sureAddr, pure_bind, storeVar, Sem.run_bind, I.run_size, Result.andThen_ok]
  rw [if_neg (by rw [hs]; exact fun h => h rfl)]
  rw [st]
  rfl
 have fin : ∀ {M : Mem} {φ : Plc} {B' : Nat → Blk} {w w' : World} {id : Nat} {p : Pl} {blk : Blk}, φ id = some p →
   Rel M (qI φ id p) (fun z => if z = id then blk else if z = id then .gone else B' z) w' ∧ Stp M φ B' w M (qI φ id p) (fun z => if z = id then blk else if z = id then .gone else B' z) w' ∧ qr φ (qI φ id p) →
   qX M φ B' w .und [(id, blk)] nx nx undef w' := by
  rintro M φ B' w w' id p blk hp ⟨r1, r2, r3⟩
  have eU : qp [(id, blk)] B' = (fun z => if z = id then blk else if z = id then .gone else B' z) := by
   funext z
   rw [qZ]
   split <;> simp_all
  refine ⟨M, qI φ id p, rfl, by rw [eU]; exact r1, by rw [eU]; exact r2, fun z _ => ?_, r3⟩
  by_cases e : z = id
  ·subst e; rw [qaa, hp]
  ·exact qaD e
 unfold qge at hU
 split at hU
 ·rename_i id off hga
  split at hU
  ·rename_i l hB
   obtain ⟨hb, hU⟩ := qf hU
   cases hU
   simp only [Bool.and_eq_true] at hb
   obtain ⟨⟨hc, ht⟩, hle⟩ := hb
   simp only [qcP, Bool.and_eq_true, Bool.not_eq_true'] at hc
   have hlen := qu hc.1
   have hle := Nat.le_of_ble_eq_true hle
   refine ⟨_, _, _, h2, Nat.le_refl _, fun M φ B' w ρ hi hf => ?_⟩
   have hv := ca hi
   rw [hga] at hv
   obtain ⟨p, hp, hv⟩ := hv
   have hBB := ag hi (id := id) (by rw [hga]; simp [qG])
   have hblk := hi.rel.blk _ _ hp
   rw [hBB, hB] at hblk
   obtain ⟨b1, b2, b3⟩ := hblk
   have al : qs (B' id) = true := by rw [hBB, hB]; rfl
   have hown := hi.rel.own id p hp al
   rw [hBB, hB] at hown
   obtain ⟨k1, k2⟩ := qcg (cx hi) hc.2
   have hsz : (ρ x).cells.size = ti.sz := k1.trans hlen
   have hget : ∀ (j : Nat) y, (qad (g x))[j]? = some y → ∃ u, (ρ x).cells[j]? = some u ∧ RL M φ u y ∧ u.oneCell' = true := fun j y hy => by
    obtain ⟨u, h1, h2⟩ := k2 j y hy
    exact ⟨u, h1, h2, (qf6 h2 (qgj ht y (List.mem_of_getElem? hy))).2⟩
   unfold qW
   rw [run hv hsz (fun j hj => by
     obtain ⟨h1, h2, _⟩ := hown (off + j) (by omega)
     rw [Nat.add_assoc]; exact ⟨h1, h2⟩) (fun v hv => by
     obtain ⟨j, hj⟩ := List.getElem?_of_mem hv
     have hlt : j < (qad (g x)).length := by have := (List.getElem?_eq_some_iff.1 hj).1; simp at this; omega
     obtain ⟨u, h1, _, h3⟩ := hget j _ (List.getElem?_eq_getElem hlt)
     rw [Array.getElem?_toList, h1] at hj
     cases hj
     exact h3)]
   refine fin hp (qeC (id2 := id) (p2 := p) (off := off) hi.rel hp al (by simp; omega) (.inl ⟨rfl, rfl⟩) rfl rfl rfl (by rw [hBB, hB]; rfl) (fun φ' hφ' => ?_))
   obtain ⟨s1, s2⟩ := qcx l off (qad (g x)) (by omega)
   refine ⟨b1, by rw [s1, b2], fun j y hy => ?_⟩
   rw [s2] at hy
   split at hy
   ·rename_i hj
    obtain ⟨u, h1, h2, _⟩ := hget _ _ hy
    have := World.cell?_setCells_in p.b (ρ x).cells.toList (p.s + off) w (fun i hi => by
     obtain ⟨⟨u, hu⟩, _⟩ := hown (off + i) (by simp at hi; omega)
     rw [Nat.add_assoc, hu]; rfl) (j - off) (by simp; omega)
    refine ⟨u, ?_, h2.mono (Ext.refl M) hφ'⟩
    rw [show p.s + j = p.s + off + (j - off) by omega, this]
    have e := (Array.getElem?_eq_some_iff.1 h1).2
    simpa using e
   ·rename_i hj
    obtain ⟨u, h1, h2⟩ := b3 j y hy
    refine ⟨u, ?_, h2.mono (Ext.refl M) hφ'⟩
    rw [World.cell?_setCells_out]
    ·exact h1
    ·intro _ _; simp; omega
  ·cases hU
 ·rename_i id i hga
  split at hU
  ·rename_i k l tl k' n hB hgx
   obtain ⟨hb, hU⟩ := qf hU
   cases hU
   simp only [Bool.and_eq_true] at hb
   obtain rfl := qE hb.1
   have hsz1 := qu hb.2
   refine ⟨_, _, _, h2, Nat.le_refl _, fun M φ B' w ρ hi hf => ?_⟩
   have hv := ca hi
   rw [hga] at hv
   obtain ⟨p, hp, hn, h0, hlt, hv⟩ := hv
   have hBB := ag hi (id := id) (by rw [hga]; simp [qG])
   have hblk := hi.rel.blk _ _ hp
   rw [hBB, hB] at hblk
   obtain ⟨b1, b2, b3, b4, b5, b6, b7⟩ := hblk
   have al : qs (B' id) = true := by rw [hBB, hB]; rfl
   have hown := hi.rel.own id p hp al
   rw [hBB, hB] at hown
   have hx := cx hi
   rw [hgx] at hx
   obtain ⟨hx, hin⟩ := hx
   have hcs : (ρ x).cells = #[.int k n] := by rw [hx]; rfl
   unfold qW
   rw [run hv (by rw [hcs, hsz1]; rfl) (fun j hj => by
     obtain ⟨h1, h2, _⟩ := hown (i.toNat + j) (by omega)
     rw [Nat.add_assoc]; exact ⟨h1, h2⟩) (fun v hv => by rw [hcs] at hv; simp at hv; rw [hv]; rfl)]
   refine fin hp (qeC (id2 := id) (p2 := p) (off := i.toNat) hi.rel hp al (by rw [hcs]; simp; omega) (.inl ⟨rfl, rfl⟩) rfl rfl rfl (by rw [hBB, hB]; rfl) (fun φ' hφ' => ?_))
   refine ⟨by simp [b1], b2, b3, b4, fun h => by simp [b5 h], by simp [b6], fun j y hy => ?_⟩
   rw [List.getElem?_set] at hy
   rw [hcs]
   split at hy
   ·rename_i hj
    subst hj
    split at hy
    ·cases hy
     have := World.cell?_setCells_in p.b [Value.int k n] (p.s + i.toNat) w (fun j hj => by
      obtain ⟨⟨u, hu⟩, _⟩ := hown (i.toNat + j) (by simp at hj; omega)
      rw [Nat.add_assoc, hu]; rfl) 0 (by simp)
     rw [Nat.add_zero] at this
     exact ⟨this, hin⟩
    ·cases hy
   ·rename_i hj
    obtain ⟨h1, h2⟩ := b7 j y hy
    refine ⟨?_, h2⟩
    rw [World.cell?_setCells_out]
    ·exact h1
    ·intro _ _; simp; omega
  ·cases hU
 ·cases hU
end
theorem qfX {P : Program} {w : World} : ∀ (gs : List Field), (∀ f ∈ gs, (P.info? f.type).isSome = true) →
  ∃ ps : List (Nat × Nat), (gs.mapM fun f => (do pure (f.offset, ← sizeOf f.type) : Sem (Nat × Nat))).run P w = .ok ps w ∧
   ∀ (j : Nat) f i, gs[j]? = some f → P.info? f.type = some i → ps[j]? = some (f.offset, i.size)
 | [], _ => ⟨[], by simp, fun j f i h => by simp at h⟩
 | f :: r, h => by
  obtain ⟨i, hi⟩ := Option.isSome_iff_exists.1 (h f (by simp))
  obtain ⟨ps, e, hp⟩ := qfX (P := P) (w := w) r (fun f hf => h f (by simp [hf]))
  refine ⟨(f.offset, i.size) :: ps, ?_, fun j f' i' hj hi' => ?_⟩
  ·have hsz : (sizeOf f.type).run P w = .ok i.size w := by simp [sizeOf, typeInfo, hi]
   simp only [List.mapM_cons, Sem.run_bind, hsz, Result.andThen_ok, Sem.run_pure, e]
  ·cases j with
   | zero => simp at hj; subst hj; rw [hi] at hi'; cases hi'; rfl
   | succ j => simpa using hp j f' i' (by simpa using hj) hi'
section
variable {C : Cfg} {P : Program} {g : Operand → V} {B : Nat → Blk} {nx : Nat} {dr : Bool} {dst : Option Tmp} {ty : TypeId} {pos : String} {after : Array Edge} {guard : Option (Nat × Bool)} {R : Type} {r : R} {K : KV R}
theorem qd4 {M : Mem} {φ : Plc} {pl : Nat → Option (Nat × TI)} {place : Nat → Option (Nat × Nat)} (hp : ∀ f off ti, pl f = some (off, ti) → place f = some (off, ti.sz)) :
  ∀ (ps : List (Nat × Operand)) {ρ : Operand → Value} {l l' : List V} {cells : Array Value},
  (∀ q ∈ ps, RV M φ (ρ q.2) (g q.2)) → qck pl (ps.map fun p => (p.1, g p.2)) l = some l' → qaH M φ cells l →
  ∃ cells', Instr.fill place cells (ps.map fun p => (p.1, ρ p.2)) = some cells' ∧ qaH M φ cells' l'
 | [], ρ, l, l', cells, _, h, hc => by
  cases h
  exact ⟨cells, rfl, hc⟩
 | (j, y) :: r, ρ, l, l', cells, hv, h, hc => by
  have hy := hv (j, y) (by simp)
  simp only [List.map_cons, qck] at h ⊢
  split at h
  ·rename_i off ti hf
   obtain ⟨hb, h1⟩ := qf h
   simp only [Bool.and_eq_true, qcP, Bool.not_eq_true'] at hb
   obtain ⟨⟨hn, hd⟩, hle⟩ := hb
   have hn := qu hn
   have hle := Nat.le_of_ble_eq_true hle
   obtain ⟨k1, k2⟩ := qcg hy hd
   have h2 := hc.put (v := (ρ y).cells) (m := qad (g y)) ⟨k1, k2⟩ (off := off) (by omega)
   obtain ⟨c', e1, e2⟩ := qd4 hp r (fun q hq => hv q (by simp [hq])) h1 h2
   exact ⟨c', by rw [qd5 (hp j off ti hf) (by rw [k1, hn]) (by rw [hc.1]; omega)]; exact e1, e2⟩
  ·cases h
theorem qhs {t : TypeId} {parts : Array (Nat × Operand)} (hT : TOk P C.T) (h : ql C g B nx dr ⟨dst, .build t parts, ty, pos, after, guard⟩ K = some r) :
  ∃ X U n', K X U n' = some r ∧ qh C P g B nx dr ⟨dst, .build t parts, ty, pos, after, guard⟩ X U n' := by
 simp only [ql] at h
 split at h
 ·rename_i ti hti
  split at h
  ·rename_i fs hd
   split at h
   ·rename_i l hl
    refine ⟨_, _, _, h, qh.pure fun M φ B' w ρ hi => ?_⟩
    obtain ⟨I⟩ := qM (hT _ _ hti)
    obtain ⟨gs, hgs, hget⟩ := I.struct hd
    have hk := I.hk
    rw [hd, hgs] at hk
    have hback := qfn hk
    obtain ⟨ps, hrun, hps⟩ := qfX (P := P) (w := w) gs.toList (fun f hf => by
     obtain ⟨q, hq, e⟩ := hback f hf
     rw [e]; exact I.hfs fs hd q hq)
    obtain ⟨z1, z2⟩ := qb3 (M := M) (φ := φ) I.hzs
    obtain ⟨cells, e1, e2⟩ := qd4 (M := M) (φ := φ) (pl := qbR C t) (place := (ps.toArray[·]?)) (fun f off ti' hf => by
     obtain ⟨gs', fd, hg1, hg2, hg3, ⟨I'⟩⟩ := qcY hT hf
     have : gs' = gs := by
      have := hg1 w
      rw [I.run_und, hgs] at this
      cases this; rfl
     subst this
     have := hps f fd I'.i (by simpa using hg2) I'.hi
     rw [hg3, I'.hs] at this
     simpa using this) parts.toList (ρ := ρ) (cells := I.z.cells) (fun q hq => hi.args q.2 (by simp [Op.operands]; exact ⟨q.1, by simpa using hq⟩)) hl
     ⟨by simpa using z1.symm, fun j y hy => let ⟨u, a, b⟩ := z2 j y hy; ⟨u, by simpa using a, b⟩⟩
    refine ⟨.agg cells, ?_, cells, rfl, e2.1, e2.2⟩
    simp only [execOp, Instr.build, Sem.run_bind, I.run_zero, I.run_und, Result.andThen_ok, hgs, Array.mapM_eq_mapM_toList, Sem.run_map, hrun]
    simp only [Array.toList_map, e1]
    rfl
   ·cases h
  ·rename_i n e hd
   obtain ⟨te, hte, h⟩ := qi h
   obtain ⟨l, hl, h⟩ := qi h
   refine ⟨_, _, _, h, qh.pure fun M φ B' w ρ hi => ?_⟩
   obtain ⟨I⟩ := qM (hT _ _ hti)
   obtain ⟨J⟩ := qM (hT _ _ hte)
   have hda := I.arr hd
   obtain ⟨z1, z2⟩ := qb3 (M := M) (φ := φ) I.hzs
   obtain ⟨cells, e1, e2⟩ := qd4 (M := M) (φ := φ) (pl := fun f => some (f * te.sz, te)) (place := fun i => some (i * te.sz, te.sz)) (fun f off ti' hf => by cases hf; rfl) parts.toList (ρ := ρ) (cells := I.z.cells) (fun q hq => hi.args q.2 (by simp [Op.operands]; exact ⟨q.1, by simpa using hq⟩)) hl
     ⟨by simpa using z1.symm, fun j y hy => let ⟨u, a, b⟩ := z2 j y hy; ⟨u, by simpa using a, b⟩⟩
   refine ⟨.agg cells, ?_, cells, rfl, e2.1, e2.2⟩
   simp only [execOp, Instr.build, Sem.run_bind, I.run_zero, I.run_und, Result.andThen_ok, hda, J.run_size]
   simp only [Array.toList_map, e1]
   rfl
  ·cases h
 ·cases h
end
def qbn : V → Bool | .int _ _ => true | .bool _ => true | .str _ => true | .ints _ _ => true | .rows _ _ => true | .fn _ => true | .nili => true | .nilp => true | _ => false
theorem qcI {M : Mem} {φ φ' : Plc} {u : Value} {x : V} (hx : qbn x = true) (h : RL M φ u x) : RL M φ' u x := by
 cases x <;> first | exact h | cases hx
theorem qfu {B : Nat → Blk} {k : Option IntKind} {c x : V} (h : imm B k c = some x) : qbn x = true := by
 unfold imm at h
 split at h
 ·obtain ⟨q, _, h⟩ := qi h; cases h; rfl
 ·obtain ⟨q, _, h⟩ := qi h; cases h; rfl
 ·cases h; rfl
 ·split at h
  ·cases h; rfl
  ·cases h
 all_goals first | (cases h; rfl) | cases h
theorem qea {k : Kd} {x : V} (h : qF k x = true) : qbn x = true := by
 cases k <;> cases x <;> first | rfl | cases h
theorem qg4 {x : V} (h : qbn x = true) : qaT x = false := by cases x <;> first | rfl | cases h
theorem qft {M M' : Mem} {φ : Plc} {B B' : Nat → Blk} {w : World} {u : Value} {c x : V} {k : Option IntKind} {kd : Kd} (h : qbA B k kd c = some x) (hu : RV M φ u c) (hM : Ext M M') (hr : Rel M' φ B' w)
  (hB : ∀ id ∈ qai c, B' id = qn (B id)) : ∀ φ', RL M' φ' u x ∧ qbn x = true := by
 intro φ'
 unfold qbA at h
 split at h
 ·cases h
  exact ⟨.inl ⟨hu, rfl⟩, rfl⟩
 ·have := qfu h
  exact ⟨qcI this (qd7 h hu hM hr hB).1, this⟩
def Sub (p0 p : Pl) : Prop := p0.b = p.b ∧ (0 < p0.c → p.s ≤ p0.s ∧ p0.s + p0.c ≤ p.s + p.c)
theorem Sub.in {p0 p : Pl} (h : Sub p0 p) {j : Nat} (hj : j < p0.c) : ∃ i, i < p.c ∧ p.s + i = p0.s + j := ⟨p0.s + j - p.s, by have := h.2 (by omega); omega, by have := h.2 (by omega); omega⟩
theorem Kp.mono {X Y : Nat → Nat → Prop} {w w' : World} (h : Kp X w w') (hX : ∀ b o, X b o → Y b o) : Kp Y w w' :=
 ⟨h.os, h.tape, h.output, h.size, fun k hk hy => h.block k hk fun o hx => hy o (hX _ _ hx), fun b o v hv hy => h.cell b o v hv fun hx => hy (hX _ _ hx), fun b o v hv hy => h.froz b o v hv fun hx => hy (hX _ _ hx), fun b s p hv hy => h.iter b s p hv fun hx => hy (hX _ _ hx)⟩
theorem qfB {b : Blk} (h : qw b = true) : qs b = true := by cases b <;> first | rfl | cases h
def qfA : Blk → Bool | .ints _ _ _ => true | _ => false
theorem qiu {M M' : Mem} {φ φ' : Plc} {w : World} {p : Pl} {b : Blk} (hb : qfA b = true) (h : RB M φ w p b) : RB M' φ' w p b := by
 cases b <;> first | exact h | cases hb
def q7 (φ φ' : Plc) (nx nxc m : Nat) : Plc := fun id => if nx ≤ id ∧ id < nx + m then φ' (nxc + (id - nx)) else φ id
def qaK (B Bc' : Nat → Blk) (nx nxc m x : Nat) (xb : Blk) : Nat → Blk := fun id => if nx ≤ id ∧ id < nx + m then Bc' (nxc + (id - nx)) else if id = x then xb else B id
inductive qdF (φ φc φ' : Plc) (B Bc Bc' : Nat → Blk) (Ma : Mem) (φ'' : Plc) (w' : World) (nxc x : Nat) (xb : Blk) : Prop where
 | none (h : ∀ b o, ¬ qK φc Bc b o) (e : xb = B x)
 | gone (p : Pl) (hp : φ x = some p) (ha : qs (B x) = true) (hin : ∀ b o, qK φc Bc b o → ∃ j, j < p.c ∧ b = p.b ∧ o = p.s + j) (e : xb = .gone)
 | lent (p p0 : Pl) (hp : φ x = some p) (ha : qs (B x) = true) (hs : Sub p0 p) (hp0 : φ' 0 = some p0) (ha0 : qs (Bc' 0) = true) (hn : 0 < nxc) (ni : qw (B x) = false) (ni' : qw xb = false) (ni0 : qw (Bc' 0) = false)
   (hin : ∀ b o, qK φc Bc b o → ∃ j, j < p0.c ∧ b = p0.b ∧ o = p0.s + j) (hb : RB Ma φ'' w' p xb)
theorem qgK {Mb Ma M' : Mem} {φ φc φ' : Plc} {B Bc Bc' : Nat → Blk} {w w' : World} {nx nxc m x : Nat} {xb : Blk} (hr : Rel Mb φ B w) (hφ : ∀ id, nx ≤ id → id < nx + m → φ id = none)
  (hr' : Rel M' φ' Bc' w') (hk : Kp (qK φc Bc) w w') (hown' : ∀ b o, qK φ' Bc' b o → qK φc Bc b o ∨ w.heap.size ≤ b)
  (hext : Ext Mb Ma) (hext' : Ext Ma M') (hnew : ∀ b o v, Ma b o = some v → Mb b o = some v ∨ qK φc Bc b o ∨ w.heap.size ≤ b)
  (hbs : ∀ i, i < m → qs (Bc' (nxc + i)) = true) (hbr : ∀ i p, i < m → φ' (nxc + i) = some p → RB Ma (q7 φ φ' nx nxc m) w' p (Bc' (nxc + i))) (hx : qdF φ φc φ' B Bc Bc' Ma (q7 φ φ' nx nxc m) w' nxc x xb) :
  Rel Ma (q7 φ φ' nx nxc m) (qaK B Bc' nx nxc m x xb) w' ∧ Stp Mb φ B w Ma (q7 φ φ' nx nxc m) (qaK B Bc' nx nxc m x xb) w' ∧ qr φ (q7 φ φ' nx nxc m) := by
 have hP : qr φ (q7 φ φ' nx nxc m) := fun id p hp => by
  unfold q7
  split
  ·rename_i h; rw [hφ id h.1 h.2] at hp; cases hp
  ·exact hp
 have cin : ∀ b o, qK φc Bc b o → ∃ p j, φ x = some p ∧ qs (B x) = true ∧ j < p.c ∧ b = p.b ∧ o = p.s + j := fun b o h => by
  cases hx with
  | none hn _ => exact absurd h (hn b o)
  | gone p hp ha hin _ => obtain ⟨j, a, b, c⟩ := hin b o h; exact ⟨p, j, hp, ha, a, b, c⟩
  | lent p p0 hp ha hs _ _ _ _ _ _ hin _ =>
   obtain ⟨j, a, b, c⟩ := hin b o h
   obtain ⟨i, hi, e⟩ := hs.in a
   exact ⟨p, i, hp, ha, hi, b.trans hs.1, by omega⟩
 have cown : ∀ b o, qK φc Bc b o → qK φ B b o := fun b o h => by
  obtain ⟨p, j, hp, ha, hj, e1, e2⟩ := cin b o h
  exact ⟨x, p, j, hp, ha, hj, e1, e2⟩
 have other : ∀ id p, id ≠ x → φ id = some p → qs (B id) = true → ∀ j, j < p.c → ¬ qK φc Bc p.b (p.s + j) := fun id p hne hp ha j hj h => by
  obtain ⟨q, i, hq, hqa, hi, e1, e2⟩ := cin _ _ h
  exact hr.dis id x p q hne hp hq ha hqa j i hj hi e1 e2
 have keepOwn : ∀ id p, φ id = some p → qs (B id) = true → (∀ j, j < p.c → ¬ qK φc Bc p.b (p.s + j)) → qb6 (qw (B id)) Ma w' p := fun id p hp ha hno j hj => by
  obtain ⟨hu, hf, hm⟩ := hr.own id p hp ha j hj
  refine ⟨hk.occ hu (hno j hj), by rw [hk.frz hu (hno j hj)]; exact hf, ?_⟩
  cases e : Ma p.b (p.s + j) with
  | none => rfl
  | some u' =>
   rcases hnew _ _ _ e with h | h | h
   ·rw [hm] at h; cases h
   ·exact absurd h (hno j hj)
   ·have := hu.lt; omega
 have keepB : ∀ id p, φ id = some p → (qs (B id) = true → ∀ j, j < p.c → ¬ qK φc Bc p.b (p.s + j)) → RB Ma (q7 φ φ' nx nxc m) w' p (B id) := fun id p hp hno =>
  (hr.blk id p hp).mono hext hP (fun ha j v hj hv => hk.cell _ _ _ hv (hno ha j hj)) (fun hit h0 h1 s q hv => hk.iter _ _ _ hv (by have := hno (qfB hit) 0 (by omega); rw [h0] at this; exact this))
 have noM : ∀ b o, M' b o = none → Ma b o = none := fun b o h => by
  cases e : Ma b o with
  | none => rfl
  | some u => rw [hext' _ _ _ e] at h; cases h
 have newOwn : ∀ i p, i < m → φ' (nxc + i) = some p → qb6 (qw (Bc' (nxc + i))) Ma w' p ∧ qs (Bc' (nxc + i)) = true := fun i p hi hp => by
  have ha : qs (Bc' (nxc + i)) = true := hbs i hi
  refine ⟨fun j hj => ?_, ha⟩
  obtain ⟨h1, h2, h3⟩ := hr'.own _ p hp ha j hj
  exact ⟨h1, h2, noM _ _ h3⟩
 have newOld : ∀ i p id q, i < m → φ' (nxc + i) = some p → φ id = some q → qs (B id) = true → ∀ j j', j < p.c → j' < q.c → p.b = q.b → p.s + j = q.s + j' → ¬ qK φc Bc q.b (q.s + j') → False := fun i p id q hi hp hq ha j j' hj hj' e1 e2 hno => by
  have := (newOwn i p hi hp).2
  rcases hown' p.b (p.s + j) ⟨_, p, j, hp, this, hj, rfl, rfl⟩ with h | h
  ·rw [e1, e2] at h; exact hno h
  ·have := (hr.own id q hq ha j' hj').1.lt
   omega
 have inP : ∀ id, nx ≤ id ∧ id < nx + m → q7 φ φ' nx nxc m id = φ' (nxc + (id - nx)) := fun id h => by unfold q7; rw [if_pos h]
 have outP : ∀ id, ¬ (nx ≤ id ∧ id < nx + m) → q7 φ φ' nx nxc m id = φ id := fun id h => by unfold q7; rw [if_neg h]
 have inB : ∀ id, nx ≤ id ∧ id < nx + m → qaK B Bc' nx nxc m x xb id = Bc' (nxc + (id - nx)) := fun id h => by unfold qaK; rw [if_pos h]
 have qaf : ∀ id, ¬ (nx ≤ id ∧ id < nx + m) → id ≠ x → qaK B Bc' nx nxc m x xb id = B id := fun id h hx => by unfold qaK; rw [if_neg h, if_neg hx]
 have outX : ¬ (nx ≤ x ∧ x < nx + m) → qaK B Bc' nx nxc m x xb x = xb := fun h => by unfold qaK; rw [if_neg h, if_pos rfl]
 have xOwn : ∀ p, φ x = some p → qs xb = true → qb6 (qw xb) Ma w' p := fun p hp ha => by
  cases hx with
  | none hn e => subst e; exact keepOwn x p hp ha fun j _ => hn _ _
  | gone _ _ _ _ e => subst e; cases ha
  | lent q p0 hq hqa hs hp0 ha0 hn ni ni' ni0 hin hb =>
   rw [hp] at hq; cases hq
   rw [ni']
   intro j hj
   by_cases hi : p0.s ≤ p.s + j ∧ p.s + j < p0.s + p0.c
   ·obtain ⟨h1, h2, h3⟩ := hr'.own 0 p0 hp0 ha0 (p.s + j - p0.s) (by omega)
    rw [show p0.s + (p.s + j - p0.s) = p.s + j by omega, hs.1] at h1 h2 h3
    rw [ni0] at h1
    exact ⟨h1, h2, noM _ _ h3⟩
   ·have hno : ¬ qK φc Bc p.b (p.s + j) := fun h => by
     obtain ⟨i, hi1, _, hi2⟩ := hin _ _ h
     omega
    obtain ⟨hu', hf, hm⟩ := hr.own x p hp hqa j hj
    rw [ni] at hu'
    obtain ⟨u, hu⟩ := hu'
    refine ⟨⟨u, hk.cell _ _ _ hu hno⟩, by rw [hk.froz _ _ _ hu hno]; exact hf, ?_⟩
    cases e : Ma p.b (p.s + j) with
    | none => rfl
    | some u' =>
     rcases hnew _ _ _ e with h | h | h
     ·rw [hm] at h; cases h
     ·exact absurd h hno
     ·have := qbd hu; omega
 have xal : qs xb = true → qs (B x) = true := fun ha => by
  cases hx with
  | none hn e => subst e; exact ha
  | gone _ _ h _ _ => exact h
  | lent _ _ _ h _ _ _ _ _ _ _ _ _ => exact h
 have xNew : ∀ i p q, i < m → φ' (nxc + i) = some p → φ x = some q → qs xb = true → ∀ j j', j < p.c → j' < q.c → p.b = q.b → p.s + j = q.s + j' → False := fun i p q hi hp hq ha j j' hj hj' e1 e2 => by
  by_cases hno : qK φc Bc q.b (q.s + j')
  ·cases hx with
   | none hn e => exact hn _ _ hno
   | gone _ _ _ _ e => subst e; cases ha
   | lent q' p0 hq' hqa hs hp0 ha0 hn _ _ _ hin hb =>
    obtain ⟨l, hl, e3, e4⟩ := hin _ _ hno
    exact hr'.dis (nxc + i) 0 p p0 (by omega) hp hp0 (newOwn i p hi hp).2 ha0 j l hj hl (e1.trans e3) (by omega)
  ·exact newOld i p x q hi hp hq (xal ha) j j' hj hj' e1 e2 hno
 have alB : ∀ id, ¬ (nx ≤ id ∧ id < nx + m) → qs (qaK B Bc' nx nxc m x xb id) = true → qs (B id) = true := fun id h ha => by
  by_cases e : id = x
  ·subst e; rw [outX h] at ha; exact xal ha
  ·rwa [qaf id h e] at ha
 refine ⟨⟨fun b o v hv => hr'.holds b o v (hext' _ _ _ hv), ?_, ?_, ?_⟩, ⟨hext, hk.mono cown, ?_, ?_⟩, hP⟩
 ·intro id p hp
  by_cases hid : nx ≤ id ∧ id < nx + m
  ·rw [inP id hid] at hp
   rw [inB id hid]
   exact hbr _ p (by omega) hp
  ·rw [outP id hid] at hp
   by_cases e : id = x
   ·subst e
    rw [outX hid]
    cases hx with
    | none hn e => rw [e]; exact keepB id p hp fun _ j _ => hn _ _
    | gone _ _ _ _ e => subst e; trivial
    | lent q p0 hq hqa hs hp0 ha0 hn _ _ _ hin hb => rw [hp] at hq; cases hq; exact hb
   ·rw [qaf id hid e]
    exact keepB id p hp fun ha => other id p e hp ha
 ·intro id p hp ha
  by_cases hid : nx ≤ id ∧ id < nx + m
  ·rw [inP id hid] at hp
   rw [inB id hid]
   exact (newOwn _ p (by omega) hp).1
  ·rw [outP id hid] at hp
   by_cases e : id = x
   ·subst e
    rw [outX hid] at ha ⊢
    exact xOwn p hp ha
   ·rw [qaf id hid e] at ha ⊢
    exact keepOwn id p hp ha (other id p e hp ha)
 ·intro id id' p p' hne hp hp' ha ha' j j' hj hj' e1 e2
  by_cases hid : nx ≤ id ∧ id < nx + m <;> by_cases hid' : nx ≤ id' ∧ id' < nx + m
  ·rw [inP id hid] at hp
   rw [inP id' hid'] at hp'
   exact hr'.dis _ _ p p' (by omega) hp hp' (newOwn _ p (by omega) hp).2 (newOwn _ p' (by omega) hp').2 j j' hj hj' e1 e2
  ·rw [inP id hid] at hp
   rw [outP id' hid'] at hp'
   by_cases e : id' = x
   ·subst e
    rw [outX hid'] at ha'
    exact xNew _ p p' (by omega) hp hp' ha' j j' hj hj' e1 e2
   ·rw [qaf id' hid' e] at ha'
    exact newOld _ p id' p' (by omega) hp hp' ha' j j' hj hj' e1 e2 (other id' p' e hp' ha' j' hj')
  ·rw [outP id hid] at hp
   rw [inP id' hid'] at hp'
   by_cases e : id = x
   ·subst e
    rw [outX hid] at ha
    exact xNew _ p' p (by omega) hp' hp ha j' j hj' hj e1.symm e2.symm
   ·rw [qaf id hid e] at ha
    exact newOld _ p' id p (by omega) hp' hp ha j' j hj' hj e1.symm e2.symm (other id p e hp ha j hj)
  ·rw [outP id hid] at hp
   rw [outP id' hid'] at hp'
   exact hr.dis id id' p p' hne hp hp' (alB id hid ha) (alB id' hid' ha') j j' hj hj' e1 e2
 ·rintro b o ⟨id, p, j, hp, ha, hj, rfl, rfl⟩
  by_cases hid : nx ≤ id ∧ id < nx + m
  ·rw [inP id hid] at hp
   rcases hown' _ _ ⟨_, p, j, hp, (newOwn _ p (by omega) hp).2, hj, rfl, rfl⟩ with h | h
   ·exact .inl (cown _ _ h)
   ·exact .inr h
  ·rw [outP id hid] at hp
   exact .inl ⟨id, p, j, hp, alB id hid ha, hj, rfl, rfl⟩
 ·intro b o v hv
  rcases hnew b o v hv with h | h | h
  ·exact .inl h
  ·exact .inr (.inl (cown _ _ h))
  ·exact .inr (.inr h)
end Go.Proofs.YtlngoohfkaceoaaGreatDoor.Eng
