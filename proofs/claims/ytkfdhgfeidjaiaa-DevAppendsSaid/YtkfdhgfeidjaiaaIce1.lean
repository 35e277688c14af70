/-
  Part of the proof of: The law DevAppends returns true at every input and leaves its arguments as they were. Conditions: those of the given row alone; no hypothesis is added.
-/
import Derived.Calls
import Derived.Laws.AppendOwn
import Derived.IntWalk
import Derived.Laws.Strings
import Derived.Laws.Tables
import Derived.Laws.CopyRow
section
/- Base of our own calculus: abstract states over the model's memory, and what it means that memory is as an abstract state says. -/
set_option linter.unusedVariables false
set_option linter.unusedSimpArgs false
namespace Go.Ice

/-! ### Values -/
/-- A cell's value that nobody writes any more. sl: cells and bytes of an element, how many, cell j of element i. -/
inductive FC where
  | any
  | int (k : IntKind) (n : Int)
  | bool (b : Bool)
  | str (s : List UInt8)
  | sl (sz bw n : Nat) (g : Nat → Nat → FC)
/-- uq: a slice over an array that is reached from here alone. -/
inductive NC where
  | f (x : FC)
  | uq (sz bw n : Nat) (g : Nat → Nat → NC)
inductive Cell where
  | nc (x : NC)
  | nil
  | own (l sz off n : Nat)
  | ptr (l sz i j : Nat)
  | ip (m : Nat) (g : Nat → FC)
  | fn (f : Nat) (caps : List Nat)
  | mp (l : Nat)
inductive EV where
  | c (x : Cell)
  | agg (cs : List Cell)
  | u
inductive TV where
  | e (x : EV)
  | tup (l : List EV)
  | wh (s : Nat) (p : Bool) (x : EV)
inductive MK where
  | int (n : Int)
  | strs (l : List (List UInt8))
  deriving DecidableEq
inductive Blk where
  | var (cs : List Cell)
  | arr (sz bw n : Nat) (c : Option Nat) (g : Nat → Nat → NC) (h : Option (Nat × Nat × Cell))
  | pre (cs : List Cell)
  | mpB (f : MK → Bool)
  | mpS (f : MK → Option (List UInt8))

@[reducible] def Cell.any : Cell := .nc (.f .any)
@[reducible] def Cell.int (k : IntKind) (n : Int) : Cell := .nc (.f (.int k n))
@[reducible] def Cell.bool (b : Bool) : Cell := .nc (.f (.bool b))
@[reducible] def Cell.str (s : List UInt8) : Cell := .nc (.f (.str s))
@[reducible] def EV.any : EV := .u
@[reducible] def EV.int (k : IntKind) (n : Int) : EV := .c (.int k n)
@[reducible] def EV.bool (b : Bool) : EV := .c (.bool b)
@[reducible] def EV.str (s : List UInt8) : EV := .c (.str s)

def inK (k : IntKind) (n : Int) : Prop := k.min ≤ n ∧ n ≤ k.max
def big47 : Nat := 140737488355328
def strV (s : List UInt8) : Value := .string ⟨s.toArray⟩

/-! ### What memory holds -/
def FC.Rep (w : World) (fr : Nat → Prop) : FC → Value → Prop
  | .any, v => v.oneCell' = true
  | .int k n, v => v = .int k n ∧ inK k n
  | .bool b, v => v = .bool b
  | .str s, v => v = strV s ∧ s.length ≤ 2 * big47
  | .sl sz bw n g, v => ∃ a c, v = .slice a n c ∧ n ≤ c ∧ n * bw ≤ big47 ∧ n ≤ big47 ∧ 0 < sz ∧
      (0 < n → ∃ ad, a = some ad ∧ ad.spot = none ∧ fr ad.block ∧ ∀ i, i < n → ∀ j, j < sz → ∃ u, w.cell? (ad.add (i * sz + j)) = some u ∧ (g i j).Rep w fr u)
/-- A block as a row of cells that may be written. -/
def Row (w : World) (b : Nat) (arr : Array Value) : Prop := ∃ e, w.heap[b]? = some (.cells arr e (0, 0))
def NC.Rep (w : World) (ω : Nat → Option (List Nat)) : List Nat → NC → Value → Prop
  | _, .f x, v => x.Rep w (fun b => ω b = none) v
  | p, .uq sz bw n g, v => 0 < sz ∧ n ≤ big47 ∧ n * bw ≤ big47 ∧ ((n = 0 ∧ v = .slice none 0 0) ∨ ∃ b c arr, v = .slice (some ⟨b, 0, none⟩) n c ∧ ω b = some p ∧ Row w b arr ∧ arr.size = c * sz ∧ n ≤ c ∧ c ≤ maxLen ∧
      ∀ i, i < n → ∀ j, j < sz → ∃ u, arr[i * sz + j]? = some u ∧ (g i j).Rep w ω (p ++ [i, j]) u)
/-- How many cells a block has: this never turns. -/
def Len (w : World) (b n : Nat) : Prop := ∃ arr e fr, w.heap[b]? = some (.cells arr e fr) ∧ arr.size = n
def Cell.Rep (w : World) (β : Nat → Option Nat) (ω : Nat → Option (List Nat)) : List Nat → Cell → Value → Prop
  | p, .nc x, v => x.Rep w ω p v
  | _, .nil, v => v = .slice none 0 0
  | _, .own l sz off n, v => (β l = none ∧ off = 0 ∧ n = 0 ∧ v = .slice none 0 0) ∨ ∃ b c, β l = some b ∧ v = .slice (some ((⟨b, 0, none⟩ : Addr).add (off * sz))) n c ∧ n ≤ c ∧ c ≤ maxLen ∧ Len w b ((off + c) * sz)
  | _, .ptr l sz i j, v => ∃ b, β l = some b ∧ v = .pointer (some ⟨b, i * sz + j, none⟩)
  | _, .ip m g, v => 0 < m ∧ ∃ ad, v = .pointer (some ad) ∧ ad.spot = none ∧ ω ad.block = none ∧ ∀ j, j < m → ∃ u, w.cell? (ad.add j) = some u ∧ (g j).Rep w (fun b => ω b = none) u
  | _, .fn f caps, v => ∃ bs : List Nat, caps.map β = bs.map some ∧ v = .func (.func f) #[] (bs.map fun b => .pointer (some ⟨b, 0, none⟩)).toArray
  | _, .mp l, v => ∃ b, β l = some b ∧ v = .map (some b)
def CellsRep (w : World) (β : Nat → Option Nat) (ω : Nat → Option (List Nat)) (P : Nat → List Nat) (cs : List Cell) (arr : Array Value) : Prop :=
  arr.size = cs.length ∧ ∀ (j : Nat) (c : Cell), cs[j]? = some c → ∃ u, arr[j]? = some u ∧ c.Rep w β ω (P j) u
def Cell.plain : Cell → Prop
  | .nc (.uq _ _ _ _) => False
  | _ => True
def EV.Rep (w : World) (β : Nat → Option Nat) (ω : Nat → Option (List Nat)) : EV → Value → Prop
  | .c x, v => x.plain ∧ x.Rep w β ω [] v
  | .agg cs, v => ∃ arr, v = .agg arr ∧ CellsRep w β ω (fun _ => []) cs arr ∧ ∀ c, c ∈ cs → c.plain
  | .u, _ => True
def TV.Rep (w : World) (β : Nat → Option Nat) (ω : Nat → Option (List Nat)) (a : Act) : TV → Value → Prop
  | .e x, v => x.Rep w β ω v
  | .tup l, v => ∃ vs, v = .tuple vs ∧ vs.size = l.length ∧ ∀ (k : Nat) (x : EV), l[k]? = some x → ∃ u, vs[k]? = some u ∧ x.Rep w β ω u
  | .wh s p x, v => (a.tmps.getD s undef = .bool p → x.Rep w β ω v) ∧ (a.tmps.getD s undef ≠ .bool p → v = undef)

/-- The value of a key of ours, and back. -/
def MK.val : MK → Value
  | .int n => .int .i64 n
  | .strs l => .agg (l.map strV).toArray
def bytesV : Value → Option (List UInt8)
  | .string s => some s.data.toList
  | _ => none
def MK.of : Value → Option MK
  | .int _ n => some (.int n)
  | .agg cs => (cs.toList.mapM bytesV).map .strs
  | _ => none
def mget (es : List MapEntry) (k : MK) : Option Value := (es.find? fun e => decide (MK.of e.key = some k)).map (·.val)

def arrCell (g : Nat → Nat → NC) (h : Option (Nat × Nat × Cell)) (i j : Nat) : Cell :=
  match h with
  | none => .nc (g i j)
  | some (i', j', c) => if i = i' ∧ j = j' then c else .nc (g i j)
def Blk.Rep (w : World) (β : Nat → Option Nat) (ω : Nat → Option (List Nat)) (l : Nat) : Blk → Prop
  | .var cs => ∃ b arr, β l = some b ∧ ω b = some [l] ∧ Row w b arr ∧ CellsRep w β ω (fun j => [l, 0, j]) cs arr
  | .arr sz bw n c g h => 0 < sz ∧ n * bw ≤ big47 ∧ n ≤ big47 ∧ ((β l = none ∧ n = 0) ∨ ∃ b arr, β l = some b ∧ ω b = some [l] ∧ Row w b arr ∧ n * sz ≤ arr.size ∧ (∀ c0, c = some c0 → arr.size = c0 * sz) ∧
      ∀ i, i < n → ∀ j, j < sz → ∃ u, arr[i * sz + j]? = some u ∧ (arrCell g h i j).Rep w β ω [l, i, j] u)
  | .pre cs => β l = none ∨ ∃ b arr, β l = some b ∧ ω b = some [l] ∧ Row w b arr ∧ CellsRep w β ω (fun j => [l, 0, j]) cs arr
  | .mpB f => ∃ b es t, β l = some b ∧ ω b = some [l] ∧ w.heap[b]? = some (.map es t) ∧ (∀ e, e ∈ es.toList → ∃ k x, e.key = MK.val k ∧ e.val = .bool x) ∧
      ∀ k, mget es.toList k = none ∧ f k = false ∨ mget es.toList k = some (.bool (f k))
  | .mpS f => ∃ b es t, β l = some b ∧ ω b = some [l] ∧ w.heap[b]? = some (.map es t) ∧ (∀ e, e ∈ es.toList → ∃ k s, e.key = MK.val k ∧ e.val = strV s) ∧
      ∀ k, mget es.toList k = (f k).map strV

/-! ### What stays -/
theorem Addr.add_block (a : Addr) (n : Nat) : (a.add n).block = a.block := by unfold Addr.add; split <;> rfl
theorem Addr.add_spot {a : Addr} (h : a.spot = none) (n : Nat) : (a.add n).spot = none := by unfold Addr.add; split <;> simp [h]
theorem Addr.add_plain (b o n : Nat) : (⟨b, o, none⟩ : Addr).add n = ⟨b, o + n, none⟩ := by unfold Addr.add; split <;> simp_all
theorem Addr.add_add (a : Addr) (h : a.spot = none) (m n : Nat) : (a.add m).add n = a.add (m + n) := by
  obtain ⟨b, o, s⟩ := a
  simp only at h
  subst h
  simp [Addr.add_plain, Nat.add_assoc]
theorem cell_same {w w' : World} {a : Addr} (h : w'.heap[a.block]? = w.heap[a.block]?) : w'.cell? a = w.cell? a := by simp [World.cell?, h]
theorem cell_lt {w : World} {a : Addr} {v : Value} (h : w.cell? a = some v) : a.block < w.heap.size := World.block_lt_of_cell? w a h

theorem FC.Rep.mono {w w' : World} {fr fr' : Nat → Prop} (h : ∀ b, b < w.heap.size → fr b → w'.heap[b]? = w.heap[b]? ∧ fr' b) :
    ∀ {x : FC} {v : Value}, x.Rep w fr v → x.Rep w' fr' v := by
  intro x
  induction x with
  | any => intro v hv; exact hv
  | int k n => intro v hv; exact hv
  | bool b => intro v hv; exact hv
  | str s => intro v hv; exact hv
  | sl sz bw n g ih =>
    intro v hv
    obtain ⟨a, c, rfl, hc, hb, hn, hz, hx⟩ := hv
    refine ⟨a, c, rfl, hc, hb, hn, hz, fun h0 => ?_⟩
    obtain ⟨ad, rfl, hs, hf, hcell⟩ := hx h0
    obtain ⟨u0, hu0, _⟩ := hcell 0 h0 0 hz
    have hlt := cell_lt hu0
    rw [Addr.add_block] at hlt
    obtain ⟨hsame, hf'⟩ := h _ hlt hf
    refine ⟨ad, rfl, hs, hf', fun i hi j hj => ?_⟩
    obtain ⟨u, hu, hr⟩ := hcell i hi j hj
    refine ⟨u, ?_, ih i j hr⟩
    have hb : (ad.add (i * sz + j)).block = ad.block := Addr.add_block _ _
    rw [cell_same (w := w) (w' := w') (by rw [hb]; exact hsame)]
    exact hu

theorem Row.lt {w : World} {b : Nat} {arr : Array Value} (h : Row w b arr) : b < w.heap.size := by
  obtain ⟨e, h⟩ := h
  exact (Array.getElem?_eq_some_iff.1 h).1
theorem Row.same {w w' : World} {b : Nat} {arr : Array Value} (h : Row w b arr) (e : w'.heap[b]? = w.heap[b]?) : Row w' b arr := by
  obtain ⟨t, h⟩ := h
  exact ⟨t, e.trans h⟩

theorem Row.cell {w : World} {b : Nat} {arr : Array Value} (h : Row w b arr) {k : Nat} {u : Value} (hu : arr[k]? = some u) : w.cell? ⟨b, k, none⟩ = some u := by
  obtain ⟨e, h⟩ := h
  simp [World.cell?, h, hu]
theorem Row.frozen {w : World} {b : Nat} {arr : Array Value} (h : Row w b arr) (k : Nat) : w.frozen? ⟨b, k, none⟩ = false := by
  obtain ⟨e, h⟩ := h
  simp [World.frozen?, h]
theorem Row.eq {w : World} {b : Nat} {arr arr' : Array Value} (h : Row w b arr) (h' : Row w b arr') : arr = arr' := by
  obtain ⟨e, h⟩ := h
  obtain ⟨e', h'⟩ := h'
  rw [h] at h'
  injection h' with h'
  injection h'

theorem NC.Rep.move {w w' : World} {ω ω' : Nat → Option (List Nat)}
    (h0 : ∀ b, b < w.heap.size → ω b = none → w'.heap[b]? = w.heap[b]? ∧ ω' b = none) :
    ∀ {x : NC} {v : Value} {p p' : List Nat}, (∀ b, b < w.heap.size → ∀ q, ω b = some (p ++ q) → w'.heap[b]? = w.heap[b]? ∧ ω' b = some (p' ++ q)) →
      x.Rep w ω p v → x.Rep w' ω' p' v := by
  intro x
  induction x with
  | f x => intro v p p' _ hv; exact FC.Rep.mono (fun b hb hf => h0 b hb hf) hv
  | uq sz bw n g ih =>
    intro v p p' h1 hv
    obtain ⟨hz, hn, hnb, hv⟩ := hv
    refine ⟨hz, hn, hnb, ?_⟩
    rcases hv with hv | ⟨b, c, arr, rfl, hω, hrow, hsz, hnc, hcm, hx⟩
    · exact .inl hv
    · obtain ⟨hsame, hω'⟩ := h1 b hrow.lt [] (by simpa using hω)
      refine .inr ⟨b, c, arr, rfl, by simpa using hω', hrow.same hsame, hsz, hnc, hcm, fun i hi j hj => ?_⟩
      obtain ⟨u, hu, hr⟩ := hx i hi j hj
      refine ⟨u, hu, ih i j (fun b hb q hq => ?_) hr⟩
      have := h1 b hb ([i, j] ++ q) (by simpa using hq)
      simpa using this

/-- What is read of it when it is not written any more. -/
def NC.unf : NC → FC
  | .f x => x
  | .uq sz bw n g => .sl sz bw n fun i j => (g i j).unf

theorem NC.Rep.freeze {w w' : World} {ω : Nat → Option (List Nat)} {fr : Nat → Prop}
    (h0 : ∀ b, b < w.heap.size → ω b = none → w'.heap[b]? = w.heap[b]? ∧ fr b) :
    ∀ {x : NC} {v : Value} {p : List Nat}, (∀ b, b < w.heap.size → ∀ q, ω b = some (p ++ q) → w'.heap[b]? = w.heap[b]? ∧ fr b) →
      x.Rep w ω p v → x.unf.Rep w' fr v := by
  intro x
  induction x with
  | f x => intro v p _ hv; exact FC.Rep.mono (fun b hb hf => h0 b hb hf) hv
  | uq sz bw n g ih =>
    intro v p h1 hv
    obtain ⟨hz, hn, hnb, hv⟩ := hv
    rcases hv with ⟨rfl, rfl⟩ | ⟨b, c, arr, rfl, hω, hrow, hsz, hnc, hcm, hx⟩
    · exact ⟨none, 0, rfl, Nat.le_refl _, hnb, hn, hz, fun h => absurd h (by omega)⟩
    · obtain ⟨hsame, hf⟩ := h1 b hrow.lt [] (by simpa using hω)
      refine ⟨some ⟨b, 0, none⟩, c, rfl, hnc, hnb, hn, hz, fun _ => ⟨⟨b, 0, none⟩, rfl, rfl, hf, fun i hi j hj => ?_⟩⟩
      obtain ⟨u, hu, hr⟩ := hx i hi j hj
      refine ⟨u, ?_, ih i j (fun b hb q hq => ?_) hr⟩
      · rw [Addr.add_plain, Nat.zero_add]
        exact (hrow.same hsame).cell hu
      · have := h1 b hb ([i, j] ++ q) (by simpa using hq)
        simpa using this

end Go.Ice
end

section
set_option linter.unusedVariables false
set_option linter.unusedSimpArgs false
namespace Go.Ice

/-! ### Abstract states -/
/-- An entry of the heap; a guard: it is there only if that slot holds that bool. -/
abbrev Gd := Option (Nat × Bool)
abbrev HE := Gd × Blk
structure AS where
  tm : List (Nat × TV)
  hp : List (Nat × HE)
  nx : Nat
  nt : Nat
abbrev Eds := List (Nat × Option Blk)

def hasN : List Nat → Nat → Bool
  | [], _ => false
  | k :: r, j => match Nat.beq k j with
    | true => true
    | false => hasN r j
def filt (seen : List Nat) : TV → TV
  | .wh s p x => match hasN seen s with
    | true => .e .any
    | false => .wh s p x
  | v => v
def lkGo : List (Nat × TV) → Nat → List Nat → TV
  | [], _, _ => .e .any
  | (k, v) :: r, j, seen => match Nat.beq k j with
    | true => filt seen v
    | false => lkGo r j (k :: seen)
def lkT (tm : List (Nat × TV)) (j : Nat) : TV := lkGo tm j []
def lkH {α : Type} : List (Nat × α) → Nat → Option α
  | [], _ => none
  | (k, v) :: r, j => match Nat.beq k j with
    | true => some v
    | false => lkH r j
def putH {α : Type} : List (Nat × α) → Nat → α → List (Nat × α)
  | [], j, b => [(j, b)]
  | (k, v) :: r, j, b => match Nat.beq k j with
    | true => (k, b) :: r
    | false => (k, v) :: putH r j b
def delH {α : Type} : List (Nat × α) → Nat → List (Nat × α)
  | [], _ => []
  | (k, v) :: r, j => match Nat.beq k j with
    | true => delH r j
    | false => (k, v) :: delH r j
def Cell.no (l : Nat) : Cell → Bool
  | .own l' _ _ _ => !(Nat.beq l' l)
  | .ptr l' _ _ _ => !(Nat.beq l' l)
  | .fn _ caps => !(hasN caps l)
  | .mp l' => !(Nat.beq l' l)
  | _ => true
def cellsNo (l : Nat) : List Cell → Bool
  | [] => true
  | c :: r => c.no l && cellsNo l r
def EV.no (l : Nat) : EV → Bool
  | .c x => x.no l
  | .agg cs => cellsNo l cs
  | .u => true
def evsNo (l : Nat) : List EV → Bool
  | [] => true
  | c :: r => c.no l && evsNo l r
def TV.no (l : Nat) : TV → Bool
  | .e x => x.no l
  | .tup xs => evsNo l xs
  | .wh _ _ x => x.no l
def Blk.no (l : Nat) : Blk → Bool
  | .var cs => cellsNo l cs
  | .pre cs => cellsNo l cs
  | .arr _ _ _ _ _ (some (_, _, c)) => c.no l
  | _ => true
def tmNo (l : Nat) : List (Nat × TV) → Bool
  | [] => true
  | (_, v) :: r => v.no l && tmNo l r
def hpNo (l : Nat) : List (Nat × HE) → Bool
  | [] => true
  | (k, (_, b)) :: r => !(Nat.beq k l) && b.no l && hpNo l r
def AS.fresh (σ : AS) (l : Nat) : Bool := tmNo l σ.tm && hpNo l σ.hp

def gTrue (a : Act) : Gd → Prop
  | none => True
  | some (s, p) => a.tmps.getD s undef = .bool p
structure Sat (σ : AS) (a : Act) (w : World) (β : Nat → Option Nat) (ω : Nat → Option (List Nat)) : Prop where
  nt : a.tmps.size = σ.nt
  df : a.defers = []
  tm : ∀ j, (lkT σ.tm j).Rep w β ω a (a.tmps.getD j undef)
  hp : ∀ l g b, lkH σ.hp l = some (g, b) → gTrue a g → b.Rep w β ω l
  cl : ∀ b l p, ω b = some (l :: p) → ∃ blk, lkH σ.hp l = some blk
  lt : ∀ b p, ω b = some p → b < w.heap.size

/-- What every piece of code keeps: all that is nobody's, or somebody else's. -/
structure Ext (w : World) (ω : Nat → Option (List Nat)) (w' : World) (ω' : Nat → Option (List Nat)) : Prop where
  os : w'.os = w.os
  tape : w'.tape = w.tape
  output : w'.output = w.output
  size : w.heap.size ≤ w'.heap.size
  keep : ∀ b, b < w.heap.size → ω b = none ∨ ω b = some [] → w'.heap[b]? = w.heap[b]? ∧ ω' b = ω b
  len : ∀ b n, Len w b n → Len w' b n
  frn : ∀ b, ω' b = some [] → ω b = some []

theorem Ext.refl {w : World} {ω : Nat → Option (List Nat)} : Ext w ω w ω :=
  ⟨rfl, rfl, rfl, Nat.le_refl _, fun _ _ _ => ⟨rfl, rfl⟩, fun _ _ h => h, fun _ e => e⟩
theorem Ext.trans {w w1 w2 : World} {ω ω1 ω2 : Nat → Option (List Nat)} (h : Ext w ω w1 ω1) (k : Ext w1 ω1 w2 ω2) : Ext w ω w2 ω2 := by
  refine ⟨k.os.trans h.os, k.tape.trans h.tape, k.output.trans h.output, Nat.le_trans h.size k.size, fun b hb e => ?_, fun b n hl => k.len b n (h.len b n hl), fun b e => h.frn b (k.frn b e)⟩
  obtain ⟨h1, h2⟩ := h.keep b hb e
  obtain ⟨k1, k2⟩ := k.keep b (Nat.lt_of_lt_of_le hb h.size) (by rw [h2]; exact e)
  exact ⟨k1.trans h1, k2.trans h2⟩

/-- The heap has grown, nothing in it has turned. -/
structure Grew (w w' : World) : Prop where
  os : w'.os = w.os
  tape : w'.tape = w.tape
  output : w'.output = w.output
  size : w.heap.size ≤ w'.heap.size
  old : ∀ b, b < w.heap.size → w'.heap[b]? = w.heap[b]?
theorem Grew.refl (w : World) : Grew w w := ⟨rfl, rfl, rfl, Nat.le_refl _, fun _ _ => rfl⟩
theorem Grew.trans {w w1 w2 : World} (h : Grew w w1) (k : Grew w1 w2) : Grew w w2 :=
  ⟨k.os.trans h.os, k.tape.trans h.tape, k.output.trans h.output, Nat.le_trans h.size k.size, fun b hb => (k.old b (Nat.lt_of_lt_of_le hb h.size)).trans (h.old b hb)⟩
theorem Len.lt {w : World} {b n : Nat} (h : Len w b n) : b < w.heap.size := by
  obtain ⟨arr, e, fr, h, _⟩ := h
  exact (Array.getElem?_eq_some_iff.1 h).1
theorem Len.same {w w' : World} {b n : Nat} (h : Len w b n) (e : w'.heap[b]? = w.heap[b]?) : Len w' b n := by
  obtain ⟨arr, t, fr, h, hs⟩ := h
  exact ⟨arr, t, fr, e.trans h, hs⟩
theorem Grew.ext {w w' : World} (h : Grew w w') {ω : Nat → Option (List Nat)} : Ext w ω w' ω :=
  ⟨h.os, h.tape, h.output, h.size, fun b hb _ => ⟨h.old b hb, rfl⟩, fun b n hl => hl.same (h.old b hl.lt), fun _ e => e⟩

/-! ### Moving what is said of cells to another world -/
/-- w' holds what w held of all blocks that a reader may look at; owners below path p are below p' now. -/
structure Mv (w : World) (ω : Nat → Option (List Nat)) (w' : World) (ω' : Nat → Option (List Nat)) : Prop where
  none : ∀ b, b < w.heap.size → ω b = none → w'.heap[b]? = w.heap[b]? ∧ ω' b = none
  len : ∀ b n, Len w b n → Len w' b n

theorem ip_move {w w' : World} {β : Nat → Option Nat} {ω ω' : Nat → Option (List Nat)} (h : Mv w ω w' ω') {m : Nat} {g : Nat → FC} {v : Value} {p p' : List Nat}
    (hr : (Cell.ip m g).Rep w β ω p v) : (Cell.ip m g).Rep w' β ω' p' v := by
  obtain ⟨hm, ad, hv, hs, hω, hc⟩ := hr
  obtain ⟨u0, hu0, _⟩ := hc 0 hm
  have hlt := cell_lt hu0
  rw [Addr.add_block] at hlt
  obtain ⟨hsame, hn⟩ := h.none _ hlt hω
  refine ⟨hm, ad, hv, hs, hn, fun j hj => ?_⟩
  obtain ⟨u, hu, hr⟩ := hc j hj
  refine ⟨u, ?_, FC.Rep.mono h.none hr⟩
  have hb : (ad.add j).block = ad.block := Addr.add_block _ _
  rw [cell_same (w := w) (w' := w') (by rw [hb]; exact hsame)]
  exact hu
theorem own_move {w w' : World} {β : Nat → Option Nat} {ω ω' : Nat → Option (List Nat)} (h : ∀ b n, Len w b n → Len w' b n) {l sz off n : Nat} {v : Value} {p p' : List Nat}
    (hr : (Cell.own l sz off n).Rep w β ω p v) : (Cell.own l sz off n).Rep w' β ω' p' v := by
  rcases hr with hr | ⟨b, c, hb, hv, h1, h2, h3⟩
  · exact .inl hr
  · exact .inr ⟨b, c, hb, hv, h1, h2, h _ _ h3⟩
theorem Cell.Rep.move {w w' : World} {β : Nat → Option Nat} {ω ω' : Nat → Option (List Nat)} (h : Mv w ω w' ω') {c : Cell} {v : Value} {p p' : List Nat}
    (h1 : ∀ b, b < w.heap.size → ∀ q, ω b = some (p ++ q) → w'.heap[b]? = w.heap[b]? ∧ ω' b = some (p' ++ q)) (hr : c.Rep w β ω p v) : c.Rep w' β ω' p' v := by
  cases c with
  | nc x => exact NC.Rep.move h.none h1 hr
  | nil => exact hr
  | own l sz off n => exact own_move h.len hr
  | ptr l sz i j => exact hr
  | ip m g => exact ip_move h hr
  | fn f caps => exact hr
  | mp l => exact hr
theorem Cell.Rep.plainMove {w w' : World} {β : Nat → Option Nat} {ω ω' : Nat → Option (List Nat)} (h : Mv w ω w' ω') {c : Cell} {v : Value} {p p' : List Nat} (hp : c.plain)
    (hr : c.Rep w β ω p v) : c.Rep w' β ω' p' v := by
  cases c with
  | nc x =>
    cases x with
    | f x => exact FC.Rep.mono h.none hr
    | uq sz bw n g => exact hp.elim
  | nil => exact hr
  | own l sz off n => exact own_move h.len hr
  | ptr l sz i j => exact hr
  | ip m g => exact ip_move h hr
  | fn f caps => exact hr
  | mp l => exact hr
theorem EV.Rep.move {w w' : World} {β : Nat → Option Nat} {ω ω' : Nat → Option (List Nat)} (h : Mv w ω w' ω') {x : EV} {v : Value} (hr : x.Rep w β ω v) : x.Rep w' β ω' v := by
  cases x with
  | c x => exact ⟨hr.1, Cell.Rep.plainMove h hr.1 hr.2⟩
  | agg cs =>
    obtain ⟨arr, hv, ⟨hs, hc⟩, hp⟩ := hr
    refine ⟨arr, hv, ⟨hs, fun j c hj => ?_⟩, hp⟩
    obtain ⟨u, hu, hr⟩ := hc j c hj
    exact ⟨u, hu, Cell.Rep.plainMove h (hp c (List.mem_of_getElem? hj)) hr⟩
  | u => trivial
theorem TV.Rep.move {w w' : World} {β : Nat → Option Nat} {ω ω' : Nat → Option (List Nat)} (h : Mv w ω w' ω') {a : Act} {x : TV} {v : Value} (hr : x.Rep w β ω a v) : x.Rep w' β ω' a v := by
  cases x with
  | e x => exact EV.Rep.move h hr
  | tup l =>
    obtain ⟨vs, hv, hs, hc⟩ := hr
    refine ⟨vs, hv, hs, fun k x hk => ?_⟩
    obtain ⟨u, hu, hr⟩ := hc k x hk
    exact ⟨u, hu, EV.Rep.move h hr⟩
  | wh s p x => exact ⟨fun hb => EV.Rep.move h (hr.1 hb), hr.2⟩
/-- A block whose own cells, and all that hangs on them, stay. -/
theorem Blk.Rep.move {w w' : World} {β : Nat → Option Nat} {ω ω' : Nat → Option (List Nat)} (h : Mv w ω w' ω') {l l' : Nat} (hβ : β l = β l') {b : Blk}
    (h1 : ∀ b, b < w.heap.size → ∀ q, ω b = some (l :: q) → w'.heap[b]? = w.heap[b]? ∧ ω' b = some (l' :: q)) (hr : b.Rep w β ω l) : b.Rep w' β ω' l' := by
  cases b with
  | var cs =>
    obtain ⟨b, arr, hb, hω, hrow, hsz, hc⟩ := hr
    obtain ⟨hs, hω'⟩ := h1 b hrow.lt [] hω
    refine ⟨b, arr, hβ.symm.trans hb, hω', hrow.same hs, hsz, fun j c hj => ?_⟩
    obtain ⟨u, hu, hr⟩ := hc j c hj
    exact ⟨u, hu, Cell.Rep.move h (fun b hb q hq => h1 b hb (0 :: j :: q) (by simpa using hq)) hr⟩
  | arr sz bw n c g hole =>
    obtain ⟨hz, hb1, hb2, hr⟩ := hr
    refine ⟨hz, hb1, hb2, ?_⟩
    rcases hr with ⟨hn, h0⟩ | ⟨b, arr, hb, hω, hrow, hsz, hcap, hc⟩
    · exact .inl ⟨hβ.symm.trans hn, h0⟩
    · obtain ⟨hs, hω'⟩ := h1 b hrow.lt [] hω
      refine .inr ⟨b, arr, hβ.symm.trans hb, hω', hrow.same hs, hsz, hcap, fun i hi j hj => ?_⟩
      obtain ⟨u, hu, hr⟩ := hc i hi j hj
      exact ⟨u, hu, Cell.Rep.move h (fun b hb q hq => h1 b hb (i :: j :: q) (by simpa using hq)) hr⟩
  | pre cs =>
    rcases hr with hr | ⟨b, arr, hb, hω, hrow, hsz, hc⟩
    · exact .inl (hβ.symm.trans hr)
    · obtain ⟨hs, hω'⟩ := h1 b hrow.lt [] hω
      refine .inr ⟨b, arr, hβ.symm.trans hb, hω', hrow.same hs, hsz, fun j c hj => ?_⟩
      obtain ⟨u, hu, hr⟩ := hc j c hj
      exact ⟨u, hu, Cell.Rep.move h (fun b hb q hq => h1 b hb (0 :: j :: q) (by simpa using hq)) hr⟩
  | mpB f =>
    obtain ⟨b, es, t, hb, hω, hm, rest⟩ := hr
    obtain ⟨hs, hω'⟩ := h1 b (Array.getElem?_eq_some_iff.1 hm).1 [] hω
    exact ⟨b, es, t, hβ.symm.trans hb, hω', by rw [hs]; exact hm, rest⟩
  | mpS f =>
    obtain ⟨b, es, t, hb, hω, hm, rest⟩ := hr
    obtain ⟨hs, hω'⟩ := h1 b (Array.getElem?_eq_some_iff.1 hm).1 [] hω
    exact ⟨b, es, t, hβ.symm.trans hb, hω', by rw [hs]; exact hm, rest⟩

theorem Grew.mv {w w' : World} (h : Grew w w') (ω : Nat → Option (List Nat)) : Mv w ω w' ω :=
  ⟨fun b hb e => ⟨h.old b hb, e⟩, fun b n hl => hl.same (h.old b hl.lt)⟩

theorem Sat.grow {σ : AS} {a : Act} {w w' : World} {β : Nat → Option Nat} {ω : Nat → Option (List Nat)} (h : Sat σ a w β ω) (hg : Grew w w') : Sat σ a w' β ω := by
  refine ⟨h.nt, h.df, fun j => (h.tm j).move (hg.mv ω), fun l g b hl hgd => ?_, h.cl, fun b p e => Nat.lt_of_lt_of_le (h.lt b p e) hg.size⟩
  exact (h.hp l g b hl hgd).move (hg.mv ω) rfl (fun b hb q e => ⟨hg.old b hb, e⟩)

/-! ### Looking up -/
theorem hasN_iff (l : List Nat) (j : Nat) : hasN l j = true ↔ j ∈ l := by
  induction l with
  | nil => simp [hasN]
  | cons k r ih =>
    simp only [hasN, List.mem_cons]
    cases h : Nat.beq k j with
    | true => simp [Nat.eq_of_beq_eq_true h]
    | false =>
      have : k ≠ j := Nat.ne_of_beq_eq_false h
      simp only [ih]
      constructor
      · exact .inr
      · rintro (h | h)
        · exact absurd h.symm this
        · exact h
theorem filt_filt (s s' : List Nat) (v : TV) : filt s (filt s' v) = filt (s ++ s') v := by
  cases v with
  | e x => rfl
  | tup l => rfl
  | wh t p x =>
    have key : hasN (s ++ s') t = (hasN s t || hasN s' t) := by
      rw [Bool.eq_iff_iff]
      simp [hasN_iff]
    simp only [filt, key]
    cases h' : hasN s' t with
    | true => simp [filt]
    | false => simp [filt]
theorem filt_ext {s s' : List Nat} (h : ∀ j, hasN s j = hasN s' j) (v : TV) : filt s v = filt s' v := by
  cases v with
  | e x => rfl
  | tup l => rfl
  | wh t p x => simp only [filt, h]
theorem filt_any (s : List Nat) : filt s (.e .any) = .e .any := rfl
theorem lkGo_filt (tm : List (Nat × TV)) (j : Nat) : ∀ s s', lkGo tm j (s ++ s') = filt s' (lkGo tm j s) := by
  induction tm with
  | nil => intro s s'; rfl
  | cons kv r ih =>
    intro s s'
    obtain ⟨k, v⟩ := kv
    simp only [lkGo]
    cases h : Nat.beq k j with
    | true =>
      simp only
      rw [filt_filt]
      exact filt_ext (fun j => by rw [Bool.eq_iff_iff]; simp [hasN_iff, or_comm]) v
    | false => exact ih (k :: s) s'
theorem lkT_same (tm : List (Nat × TV)) (d : Nat) (v : TV) : lkT ((d, v) :: tm) d = v := by
  simp only [lkT, lkGo, Nat.beq_refl]
  cases v <;> rfl
theorem lkT_other (tm : List (Nat × TV)) (d : Nat) (v : TV) (j : Nat) (h : d ≠ j) : lkT ((d, v) :: tm) j = filt [d] (lkT tm j) := by
  have hb : Nat.beq d j = false := by
    cases hh : Nat.beq d j with
    | true => exact absurd (Nat.eq_of_beq_eq_true hh) h
    | false => rfl
  simp only [lkT, lkGo, hb]
  exact lkGo_filt tm j [] [d]

theorem TV.Rep.other {w : World} {β : Nat → Option Nat} {ω : Nat → Option (List Nat)} {a a' : Act} {x : TV} {v : Value} {d : Nat} (h : ∀ s, s ≠ d → a'.tmps.getD s undef = a.tmps.getD s undef)
    (hr : x.Rep w β ω a v) : (filt [d] x).Rep w β ω a' v := by
  cases x with
  | e x => exact hr
  | tup l => exact hr
  | wh s p x =>
    simp only [filt, hasN]
    cases hb : Nat.beq d s with
    | true => trivial
    | false =>
      have e := h s (fun e => by subst e; simp at hb)
      exact ⟨fun hh => hr.1 (by rw [← e]; exact hh), fun hh => hr.2 (by rw [← e]; exact hh)⟩

theorem getD_set (t : Array Value) (d : Nat) (v : Value) (j : Nat) (h : d < t.size) : (t.setIfInBounds d v).getD j undef = if d = j then v else t.getD j undef := by
  simp only [Array.getD_eq_getD_getElem?, Array.getElem?_setIfInBounds]
  split
  · rename_i e
    subst e
    simp [h]
  · rfl

/-- No entry hangs on slot d. -/
def tagNo (d : Nat) : List (Nat × HE) → Bool
  | [] => true
  | (_, (some (s, _), _)) :: r => !(Nat.beq s d) && tagNo d r
  | (_, (none, _)) :: r => tagNo d r
theorem tagNo_lk {d : Nat} {hp : List (Nat × HE)} (h : tagNo d hp = true) {l : Nat} {s : Nat} {p : Bool} {b : Blk} (hl : lkH hp l = some (some (s, p), b)) : s ≠ d := by
  induction hp with
  | nil => cases hl
  | cons kv r ih =>
    obtain ⟨k, g, x⟩ := kv
    simp only [lkH] at hl
    cases hb : Nat.beq k l with
    | true =>
      rw [hb] at hl
      injection hl with hl
      injection hl with h1 h2
      subst h1
      simp only [tagNo, Bool.and_eq_true] at h
      intro e
      subst e
      simp at h
    | false =>
      rw [hb] at hl
      refine ih ?_ hl
      cases g with
      | none => exact h
      | some sp => simp only [tagNo, Bool.and_eq_true] at h; exact h.2

theorem Sat.put {σ : AS} {a : Act} {w : World} {β : Nat → Option Nat} {ω : Nat → Option (List Nat)} (h : Sat σ a w β ω) {d : Nat} (hd : d < σ.nt) (ht : tagNo d σ.hp = true) {x : TV} {v : Value}
    (hx : x.Rep w β ω (a.put (some d) v) v) : Sat { σ with tm := (d, x) :: σ.tm } (a.put (some d) v) w β ω := by
  have hd' : d < a.tmps.size := by rw [h.nt]; exact hd
  have hs : ∀ s, s ≠ d → (a.put (some d) v).tmps.getD s undef = a.tmps.getD s undef := fun s hs => by
    simp only [Act.put]
    rw [getD_set _ _ _ _ hd', if_neg (fun e => hs e.symm)]
  refine ⟨by simp [Act.put, h.nt], h.df, fun j => ?_, fun l g b hl hg => h.hp l g b hl ?_, h.cl, h.lt⟩
  · by_cases e : d = j
    · subst e
      simp only [Act.put] at hx ⊢
      rw [getD_set _ _ _ _ hd', if_pos rfl, lkT_same]
      exact hx
    · rw [hs j (fun e' => e e'.symm), lkT_other _ _ _ _ e]
      exact (h.tm j).other hs
  · cases g with
    | none => trivial
    | some sp =>
      obtain ⟨s, p⟩ := sp
      simp only [gTrue] at hg ⊢
      rw [← hs s (tagNo_lk ht hl)]
      exact hg
end Go.Ice
end

section
set_option linter.unusedVariables false
set_option linter.unusedSimpArgs false
namespace Go.Ice

def upd {α : Type} (f : Nat → α) (l : Nat) (x : α) (j : Nat) : α := if j = l then x else f j
theorem upd_same {α : Type} (f : Nat → α) (l : Nat) (x : α) : upd f l x l = x := by simp [upd]
theorem upd_other {α : Type} (f : Nat → α) {l j : Nat} (x : α) (h : j ≠ l) : upd f l x j = f j := by simp [upd, h]

theorem hasN_false {l : List Nat} {j : Nat} (h : hasN l j = false) : j ∉ l := fun hm => by rw [(hasN_iff l j).2 hm] at h; cases h
theorem beq_no {a b : Nat} (h : (!(Nat.beq a b)) = true) : a ≠ b := by
  intro e
  subst e
  simp at h

theorem Cell.Rep.upd {w : World} {β : Nat → Option Nat} {ω : Nat → Option (List Nat)} {l : Nat} {x : Option Nat} {c : Cell} {v : Value} {p : List Nat} (hn : c.no l = true) (h : c.Rep w β ω p v) : c.Rep w (upd β l x) ω p v := by
  cases c with
  | nc y => exact h
  | nil => exact h
  | own l' sz off n =>
    have := beq_no hn
    simp only [Cell.Rep] at h ⊢
    rw [upd_other _ _ this]
    exact h
  | ptr l' sz i j =>
    have := beq_no hn
    simp only [Cell.Rep] at h ⊢
    rw [upd_other _ _ this]
    exact h
  | ip m g => exact h
  | fn f caps =>
    have : hasN caps l = false := by simpa [Cell.no] using hn
    have hnm := hasN_false this
    obtain ⟨bs, h1, h2⟩ := h
    refine ⟨bs, ?_, h2⟩
    rw [← h1]
    exact List.map_congr_left fun y hy => upd_other _ _ (fun e => hnm (by rw [← e]; exact hy))
  | mp l' =>
    have := beq_no hn
    simp only [Cell.Rep] at h ⊢
    rw [upd_other _ _ this]
    exact h
theorem cellsNo_mem {l : Nat} {cs : List Cell} (h : cellsNo l cs = true) {c : Cell} (hc : c ∈ cs) : c.no l = true := by
  induction cs with
  | nil => cases hc
  | cons x r ih =>
    simp only [cellsNo, Bool.and_eq_true] at h
    cases hc with
    | head => exact h.1
    | tail _ hm => exact ih h.2 hm
theorem evsNo_mem {l : Nat} {cs : List EV} (h : evsNo l cs = true) {c : EV} (hc : c ∈ cs) : c.no l = true := by
  induction cs with
  | nil => cases hc
  | cons x r ih =>
    simp only [evsNo, Bool.and_eq_true] at h
    cases hc with
    | head => exact h.1
    | tail _ hm => exact ih h.2 hm
theorem EV.Rep.upd {w : World} {β : Nat → Option Nat} {ω : Nat → Option (List Nat)} {l : Nat} {x : Option Nat} {c : EV} {v : Value} (hn : c.no l = true) (h : c.Rep w β ω v) : c.Rep w (upd β l x) ω v := by
  cases c with
  | c y => exact ⟨h.1, Cell.Rep.upd hn h.2⟩
  | agg cs =>
    obtain ⟨arr, hv, ⟨hs, hc⟩, hp⟩ := h
    refine ⟨arr, hv, ⟨hs, fun j c hj => ?_⟩, hp⟩
    obtain ⟨u, hu, hr⟩ := hc j c hj
    exact ⟨u, hu, Cell.Rep.upd (cellsNo_mem hn (List.mem_of_getElem? hj)) hr⟩
  | u => trivial
theorem TV.Rep.upd {w : World} {β : Nat → Option Nat} {ω : Nat → Option (List Nat)} {l : Nat} {x : Option Nat} {a : Act} {c : TV} {v : Value} (hn : c.no l = true) (h : c.Rep w β ω a v) : c.Rep w (upd β l x) ω a v := by
  cases c with
  | e y => exact EV.Rep.upd hn h
  | tup xs =>
    obtain ⟨vs, hv, hs, hc⟩ := h
    refine ⟨vs, hv, hs, fun k x hk => ?_⟩
    obtain ⟨u, hu, hr⟩ := hc k x hk
    exact ⟨u, hu, EV.Rep.upd (evsNo_mem hn (List.mem_of_getElem? hk)) hr⟩
  | wh s p y => exact ⟨fun hb => EV.Rep.upd hn (h.1 hb), h.2⟩
theorem Blk.Rep.upd {w : World} {β : Nat → Option Nat} {ω : Nat → Option (List Nat)} {l l' : Nat} {x : Option Nat} {b : Blk} (hl : l' ≠ l) (hn : b.no l = true) (h : b.Rep w β ω l') : b.Rep w (upd β l x) ω l' := by
  have e := upd_other β x hl
  cases b with
  | var cs =>
    obtain ⟨b, arr, hb, hω, hrow, hsz, hc⟩ := h
    refine ⟨b, arr, e.trans hb, hω, hrow, hsz, fun j c hj => ?_⟩
    obtain ⟨u, hu, hr⟩ := hc j c hj
    exact ⟨u, hu, Cell.Rep.upd (cellsNo_mem hn (List.mem_of_getElem? hj)) hr⟩
  | arr sz bw n c g hole =>
    obtain ⟨hz, hb1, hb2, h⟩ := h
    refine ⟨hz, hb1, hb2, ?_⟩
    rcases h with ⟨h1, h2⟩ | ⟨b, arr, hb, hω, hrow, hsz, hcap, hc⟩
    · exact .inl ⟨e.trans h1, h2⟩
    refine .inr ⟨b, arr, e.trans hb, hω, hrow, hsz, hcap, fun i hi j hj => ?_⟩
    obtain ⟨u, hu, hr⟩ := hc i hi j hj
    refine ⟨u, hu, Cell.Rep.upd ?_ hr⟩
    cases hole with
    | none => rfl
    | some h =>
      obtain ⟨i', j', c'⟩ := h
      simp only [arrCell]
      split
      · exact hn
      · rfl
  | pre cs =>
    rcases h with h | ⟨b, arr, hb, hω, hrow, hsz, hc⟩
    · exact .inl (e.trans h)
    · refine .inr ⟨b, arr, e.trans hb, hω, hrow, hsz, fun j c hj => ?_⟩
      obtain ⟨u, hu, hr⟩ := hc j c hj
      exact ⟨u, hu, Cell.Rep.upd (cellsNo_mem hn (List.mem_of_getElem? hj)) hr⟩
  | mpB f => obtain ⟨b, es, t, hb, rest⟩ := h; exact ⟨b, es, t, e.trans hb, rest⟩
  | mpS f => obtain ⟨b, es, t, hb, rest⟩ := h; exact ⟨b, es, t, e.trans hb, rest⟩

theorem filt_no {l : Nat} {v : TV} (s : List Nat) (h : v.no l = true) : (filt s v).no l = true := by
  cases v with
  | e x => exact h
  | tup x => exact h
  | wh t p x =>
    simp only [filt]
    cases hasN s t with
    | true => rfl
    | false => exact h
theorem lkT_no {l : Nat} {tm : List (Nat × TV)} (h : tmNo l tm = true) (j : Nat) : (lkT tm j).no l = true := by
  unfold lkT
  generalize ([] : List Nat) = s
  induction tm generalizing s with
  | nil => rfl
  | cons kv r ih =>
    obtain ⟨k, v⟩ := kv
    simp only [tmNo, Bool.and_eq_true] at h
    simp only [lkGo]
    cases Nat.beq k j with
    | true => exact filt_no s h.1
    | false => exact ih h.2 _
theorem lkH_no {l : Nat} {hp : List (Nat × HE)} (h : hpNo l hp = true) {j : Nat} {g : Gd} {b : Blk} (hl : lkH hp j = some (g, b)) : j ≠ l ∧ b.no l = true := by
  induction hp with
  | nil => cases hl
  | cons kv r ih =>
    obtain ⟨k, g, v⟩ := kv
    simp only [hpNo, Bool.and_eq_true] at h
    simp only [lkH] at hl
    cases hb : Nat.beq k j with
    | true =>
      rw [hb] at hl
      injection hl with hl
      injection hl with h1 h2
      subst h2
      have := Nat.eq_of_beq_eq_true hb
      subst this
      exact ⟨beq_no h.1.1, h.1.2⟩
    | false => rw [hb] at hl; exact ih h.2 hl
theorem lkH_putH {α : Type} (hp : List (Nat × α)) (l : Nat) (b : α) (j : Nat) : lkH (putH hp l b) j = if j = l then some b else lkH hp j := by
  induction hp with
  | nil =>
    simp only [putH, lkH]
    cases hb : Nat.beq l j with
    | true => simp [(Nat.eq_of_beq_eq_true hb).symm]
    | false => have := Nat.ne_of_beq_eq_false hb; rw [if_neg (fun e => this e.symm)]
  | cons kv r ih =>
    obtain ⟨k, v⟩ := kv
    simp only [putH]
    cases hb : Nat.beq k l with
    | true =>
      have := Nat.eq_of_beq_eq_true hb
      subst this
      simp only [lkH]
      cases hj : Nat.beq k j with
      | true => simp [(Nat.eq_of_beq_eq_true hj).symm]
      | false => have := Nat.ne_of_beq_eq_false hj; simp only; rw [if_neg (fun e => this e.symm)]
    | false =>
      have hk := Nat.ne_of_beq_eq_false hb
      simp only [lkH]
      cases hj : Nat.beq k j with
      | true =>
        have := Nat.eq_of_beq_eq_true hj
        subst this
        simp [hk]
      | false => simp only; exact ih
theorem lkH_delH {α : Type} (hp : List (Nat × α)) (l : Nat) (j : Nat) : lkH (delH hp l) j = if j = l then none else lkH hp j := by
  induction hp with
  | nil => simp [delH, lkH]
  | cons kv r ih =>
    obtain ⟨k, v⟩ := kv
    simp only [delH]
    cases hb : Nat.beq k l with
    | true =>
      have := Nat.eq_of_beq_eq_true hb
      subst this
      simp only [lkH, ih]
      by_cases e : j = k
      · simp [e]
      · cases hj : Nat.beq k j with
        | true => exact absurd (Nat.eq_of_beq_eq_true hj).symm e
        | false => simp [e]
    | false =>
      have hk := Nat.ne_of_beq_eq_false hb
      simp only [lkH]
      cases hj : Nat.beq k j with
      | true =>
        have := Nat.eq_of_beq_eq_true hj
        subst this
        simp [hk]
      | false => simp only; exact ih

theorem grew_alloc (w : World) (o : Obj) : Grew w (w.alloc o) := ⟨rfl, rfl, rfl, by simp, fun b hb => heap_alloc_old w o b hb⟩

/-- A new block under a new number. -/
theorem Sat.alloc {σ : AS} {a : Act} {w : World} {β : Nat → Option Nat} {ω : Nat → Option (List Nat)} (h : Sat σ a w β ω) {l : Nat} (hf : σ.fresh l = true) (o : Obj) (gd : Gd) {blk : Blk}
    (hb : ∀ ω', (∀ b, b < w.heap.size → ω' b = ω b) → ω' w.heap.size = some [l] → blk.Rep (w.alloc o) (Go.Ice.upd β l (some w.heap.size)) ω' l) :
    Sat { σ with hp := putH σ.hp l (gd, blk) } a (w.alloc o) (Go.Ice.upd β l (some w.heap.size)) (Go.Ice.upd ω w.heap.size (some [l])) := by
  simp only [AS.fresh, Bool.and_eq_true] at hf
  have hmv : Mv w ω (w.alloc o) (Go.Ice.upd ω w.heap.size (some [l])) :=
    ⟨fun b hb e => ⟨heap_alloc_old w o b hb, by rw [upd_other _ _ (by omega)]; exact e⟩, fun b n hl => hl.same (heap_alloc_old w o b hl.lt)⟩
  refine ⟨h.nt, h.df, fun j => ((h.tm j).upd (lkT_no hf.1 j)).move hmv, fun k g b hk hg => ?_, fun b k p e => ?_, fun b p e => ?_⟩
  · rw [lkH_putH] at hk
    by_cases e : k = l
    · subst e
      rw [if_pos rfl] at hk
      injection hk with hk
      injection hk with h1 h2
      subst h2
      exact hb _ (fun b hb => upd_other _ _ (by omega)) (upd_same _ _ _)
    · rw [if_neg e] at hk
      have hr := h.hp k g b hk hg
      exact (hr.upd (lkH_no hf.2 hk).1 (lkH_no hf.2 hk).2).move hmv rfl (fun b hb q hq => ⟨heap_alloc_old w o b hb, by rw [upd_other _ _ (by omega)]; exact hq⟩)
  · rw [lkH_putH]
    by_cases e' : k = l
    · exact ⟨(gd, blk), by rw [if_pos e']⟩
    · rw [if_neg e']
      by_cases eb : b = w.heap.size
      · subst eb
        rw [upd_same] at e
        injection e with e
        injection e with e _
        exact absurd e.symm e'
      · rw [upd_other _ _ eb] at e
        exact h.cl b k p e
  · by_cases eb : b = w.heap.size
    · subst eb; simp
    · rw [upd_other _ _ eb] at e
      have := h.lt b p e
      simp; omega
theorem Ext.alloc {w : World} {ω : Nat → Option (List Nat)} (o : Obj) (l : Nat) : Ext w ω (w.alloc o) (Go.Ice.upd ω w.heap.size (some [l])) :=
  ⟨rfl, rfl, rfl, by simp, fun b hb _ => ⟨heap_alloc_old w o b hb, upd_other _ _ (by omega)⟩, fun b n hl => hl.same (heap_alloc_old w o b hl.lt), fun b e => by
    by_cases eb : b = w.heap.size
    · subst eb; rw [upd_same] at e; cases e
    · rwa [upd_other _ _ eb] at e⟩
end Go.Ice
end

section
set_option linter.unusedVariables false
set_option linter.unusedSimpArgs false
namespace Go.Ice

def keepR (hp : List (Nat × HE)) (ω : Nat → Option (List Nat)) (b : Nat) : Option (List Nat) :=
  match ω b with
  | some (l :: p) => match lkH hp l with
    | some _ => some (l :: p)
    | none => none
  | x => x
theorem keepR_none {hp : List (Nat × HE)} {ω : Nat → Option (List Nat)} {b : Nat} (h : ω b = none) : keepR hp ω b = none := by simp [keepR, h]
theorem keepR_frn {hp : List (Nat × HE)} {ω : Nat → Option (List Nat)} {b : Nat} (h : ω b = some []) : keepR hp ω b = some [] := by simp [keepR, h]
theorem keepR_kept {hp : List (Nat × HE)} {ω : Nat → Option (List Nat)} {b l : Nat} {p : List Nat} {e : HE} (h : ω b = some (l :: p)) (hl : lkH hp l = some e) : keepR hp ω b = some (l :: p) := by simp [keepR, h, hl]
theorem keepR_some {hp : List (Nat × HE)} {ω : Nat → Option (List Nat)} {b : Nat} {p : List Nat} (h : keepR hp ω b = some p) : ω b = some p ∧ (p = [] ∨ ∃ l q e, p = l :: q ∧ lkH hp l = some e) := by
  unfold keepR at h
  cases hω : ω b with
  | none => rw [hω] at h; cases h
  | some q =>
    rw [hω] at h
    cases q with
    | nil => simp only at h; exact ⟨h, .inl (by injection h with h; exact h.symm)⟩
    | cons l q =>
      simp only at h
      cases hl : lkH hp l with
      | none => rw [hl] at h; cases h
      | some e => rw [hl] at h; simp only at h; injection h with h; subst h; exact ⟨rfl, .inr ⟨l, q, e, rfl, hl⟩⟩
/-- Entries are let go: what was theirs is nobody's, and is written no more. -/
theorem Sat.drop {σ : AS} {a : Act} {w : World} {β : Nat → Option Nat} {ω : Nat → Option (List Nat)} (h : Sat σ a w β ω) {hp : List (Nat × HE)} (hsub : ∀ l e, lkH hp l = some e → lkH σ.hp l = some e) :
    Sat { σ with hp := hp } a w β (keepR hp ω) ∧ Ext w ω w (keepR hp ω) := by
  have hmv : Mv w ω w (keepR hp ω) := ⟨fun b hb e => ⟨rfl, keepR_none e⟩, fun _ _ h => h⟩
  refine ⟨⟨h.nt, h.df, fun j => (h.tm j).move hmv, fun l g b hl hg => ?_, fun b l p e => ?_, fun b p e => h.lt b p (keepR_some e).1⟩,
    ⟨rfl, rfl, rfl, Nat.le_refl _, fun b hb e => ⟨rfl, ?_⟩, fun _ _ h => h, fun b e => (keepR_some e).1⟩⟩
  · exact (h.hp l g b (hsub l _ hl) hg).move hmv rfl (fun b hb q hq => ⟨rfl, keepR_kept hq hl⟩)
  · rcases (keepR_some e).2 with h1 | ⟨l', q, e', h1, h2⟩
    · cases h1
    · injection h1 with h1 _
      subst h1
      exact ⟨e', h2⟩
  · rcases e with e | e
    · rw [keepR_none e, e]
    · rw [keepR_frn e, e]

/-- The tagged entries are let go. -/
def dropAll : List (Nat × HE) → List (Nat × HE)
  | [] => []
  | (k, (some _, b)) :: r => dropAll r
  | (k, (none, b)) :: r => (k, (none, b)) :: dropAll r
def tagAny : List (Nat × HE) → Bool
  | [] => false
  | (k, (some _, b)) :: r => true
  | (k, (none, b)) :: r => tagAny r
def keysIn : List (Nat × HE) → Nat → Bool
  | [], _ => false
  | (k, _) :: r, l => match Nat.beq k l with
    | true => true
    | false => keysIn r l
/-- No number stands there twice. -/
def dupNo : List (Nat × HE) → Bool
  | [] => true
  | (k, _) :: r => !(keysIn r k) && dupNo r
theorem lk_keysIn {hp : List (Nat × HE)} {l : Nat} {e : HE} (h : lkH hp l = some e) : keysIn hp l = true := by
  induction hp with
  | nil => cases h
  | cons kv r ih =>
    obtain ⟨k, v⟩ := kv
    simp only [keysIn]
    simp only [lkH] at h
    cases hb : Nat.beq k l with
    | true => rfl
    | false => rw [hb] at h; exact ih h
theorem lkH_dropAll {hp : List (Nat × HE)} (hd : dupNo hp = true) {l : Nat} {e : HE} (h : lkH (dropAll hp) l = some e) : lkH hp l = some e := by
  induction hp with
  | nil => cases h
  | cons kv r ih =>
    obtain ⟨k, g, b⟩ := kv
    simp only [dupNo, Bool.and_eq_true] at hd
    simp only [lkH]
    cases g with
    | some sp =>
      simp only [dropAll] at h
      have := ih hd.2 h
      cases hb : Nat.beq k l with
      | true =>
        have e := Nat.eq_of_beq_eq_true hb
        subst e
        rw [lk_keysIn this] at hd
        cases hd.1
      | false => exact this
    | none =>
      simp only [dropAll, lkH] at h
      cases hb : Nat.beq k l with
      | true => rw [hb] at h; exact h
      | false => rw [hb] at h; exact ih hd.2 h
end Go.Ice
end

section
set_option linter.unusedVariables false
set_option linter.unusedSimpArgs false
namespace Go.Ice
/-! ### Owners under another name -/
def strip : List Nat → List Nat → Option (List Nat)
  | [], q => some q
  | _ :: _, [] => none
  | x :: p, y :: q => if x = y then strip p q else none
theorem strip_append (p r : List Nat) : strip p (p ++ r) = some r := by
  induction p with
  | nil => rfl
  | cons x p ih => simp [strip, ih]
theorem strip_some {p q r : List Nat} (h : strip p q = some r) : q = p ++ r := by
  induction p generalizing q with
  | nil => simp [strip] at h; simp [h]
  | cons x p ih =>
    cases q with
    | nil => simp [strip] at h
    | cons y q =>
      simp only [strip] at h
      split at h
      · rename_i e; rw [ih h, e]; rfl
      · cases h
def reroot (p p' : List Nat) (ω : Nat → Option (List Nat)) (b : Nat) : Option (List Nat) :=
  match ω b with
  | some q => match strip p q with
    | some r => some (p' ++ r)
    | none => some q
  | none => none
section
variable {p p' : List Nat} {ω : Nat → Option (List Nat)} {b : Nat}
theorem reroot_none (h : ω b = none) : reroot p p' ω b = none := by simp [reroot, h]
theorem reroot_hit {r : List Nat} (h : ω b = some (p ++ r)) : reroot p p' ω b = some (p' ++ r) := by simp [reroot, h, strip_append]
theorem reroot_miss {q : List Nat} (h : ω b = some q) (hs : strip p q = none) : reroot p p' ω b = some q := by simp [reroot, h, hs]
theorem reroot_some {q : List Nat} (h : reroot p p' ω b = some q) : (∃ r, ω b = some (p ++ r) ∧ q = p' ++ r) ∨ (ω b = some q ∧ strip p q = none) := by
  unfold reroot at h
  split at h
  · rename_i q' e
    split at h
    · rename_i r hs
      injection h with h
      exact .inl ⟨r, by rw [e, strip_some hs], h.symm⟩
    · rename_i hs
      injection h with h
      subst h
      exact .inr ⟨e, hs⟩
  · cases h
theorem strip_ne {x y : Nat} {p q : List Nat} (h : x ≠ y) : strip (x :: p) (y :: q) = none := by simp [strip, h]
theorem strip_long (x y : Nat) (p : List Nat) : strip (x :: y :: p) [x] = none := by simp [strip]
theorem strip_ne3 {l i j i' j' : Nat} {q : List Nat} (h : ¬ (i = i' ∧ j = j')) : strip [l, i, j] (l :: i' :: j' :: q) = none := by
  simp only [strip, if_true]
  by_cases hi : i = i'
  · by_cases hj : j = j'
    · exact absurd ⟨hi, hj⟩ h
    · simp [hi, hj]
  · simp [hi]
theorem reroot_mv {w : World} : Mv w ω w (reroot p p' ω) := ⟨fun b _ e => ⟨rfl, reroot_none e⟩, fun _ _ h => h⟩
theorem reroot_ext {w : World} {x : Nat} {p0 : List Nat} {y : Nat} {p1 : List Nat} : Ext w ω w (reroot (x :: p0) (y :: p1) ω) := by
  refine ⟨rfl, rfl, rfl, Nat.le_refl _, fun b hb e => ⟨rfl, ?_⟩, fun _ _ h => h, fun b e => ?_⟩
  · rcases e with e | e
    · rw [reroot_none e, e]
    · rw [reroot_miss e rfl, e]
  · rcases reroot_some e with ⟨r, _, h⟩ | ⟨h, _⟩
    · simp at h
    · exact h
end

theorem Sat.fresh_tm {σ : AS} {l : Nat} (h : σ.fresh l = true) : tmNo l σ.tm = true := by simp only [AS.fresh, Bool.and_eq_true] at h; exact h.1
theorem Sat.fresh_hp {σ : AS} {l : Nat} (h : σ.fresh l = true) : hpNo l σ.hp = true := by simp only [AS.fresh, Bool.and_eq_true] at h; exact h.2

/-- A slice that an element of a row owns gets a number of its own. -/
theorem Sat.unpack {σ : AS} {a : Act} {w : World} {β : Nat → Option Nat} {ω : Nat → Option (List Nat)} (h : Sat σ a w β ω) {l id sz bw n : Nat} {c : Option Nat} {f : Nat → Nat → NC}
    (hl : lkH σ.hp l = some (none, .arr sz bw n c f none)) (hf : σ.fresh id = true) {i j sz2 bw2 n2 : Nat} {f2 : Nat → Nat → NC} (hi : i < n) (hj : j < sz) (hu : f i j = .uq sz2 bw2 n2 f2) :
    ∃ β' ω', Sat { σ with hp := putH (putH σ.hp id (none, .arr sz2 bw2 n2 none f2 none)) l (none, .arr sz bw n c f (some (i, j, .own id sz2 0 n2))) } a w β' ω' ∧ Ext w ω w ω' ∧ (∀ k, k ≠ id → β' k = β k) ∧
      ∃ b arr u, β l = some b ∧ Row w b arr ∧ arr[i * sz + j]? = some u ∧ (Cell.own id sz2 0 n2).Rep w β' ω' [] u := by
  obtain ⟨hz, hb1, hb2, hr⟩ := h.hp l none _ hl trivial
  rcases hr with ⟨_, hn⟩ | ⟨b, arr, hb, hω, hrow, hsz, hcap, hc⟩
  · omega
  obtain ⟨u, hu0, hur⟩ := hc i hi j hj
  simp only [arrCell, hu] at hur
  obtain ⟨hz2, hn2, hnb2, hur⟩ := hur
  have hlid : l ≠ id := (lkH_no (Sat.fresh_hp hf) hl).1
  have key : ∃ B, ((B = none ∧ n2 = 0 ∧ u = .slice none 0 0) ∨ ∃ b2 c2 arr2, B = some b2 ∧ u = .slice (some ⟨b2, 0, none⟩) n2 c2 ∧ ω b2 = some [l, i, j] ∧ Row w b2 arr2 ∧ arr2.size = c2 * sz2 ∧ n2 ≤ c2 ∧ c2 ≤ maxLen ∧
      ∀ x, x < n2 → ∀ y, y < sz2 → ∃ v, arr2[x * sz2 + y]? = some v ∧ (f2 x y).Rep w ω ([l, i, j] ++ [x, y]) v) := by
    rcases hur with ⟨h1, h2⟩ | ⟨b2, c2, arr2, h1, h2, h3, h4, h5, h6, h7⟩
    · exact ⟨none, .inl ⟨rfl, h1, h2⟩⟩
    · exact ⟨some b2, .inr ⟨b2, c2, arr2, rfl, h1, h2, h3, h4, h5, h6, h7⟩⟩
  obtain ⟨B, hB⟩ := key
  have own : (Cell.own id sz2 0 n2).Rep w (upd β id B) (reroot [l, i, j] [id] ω) [] u := by
    rcases hB with ⟨h1, h2, h3⟩ | ⟨b2, c2, arr2, h1, h2, h3, h4, h5, h6, h7, h8⟩
    · exact .inl ⟨by rw [upd_same, h1], rfl, h2, h3⟩
    · refine .inr ⟨b2, c2, by rw [upd_same, h1], by rw [h2, Nat.zero_mul]; simp [Addr.add], h6, h7, ?_⟩
      obtain ⟨e, he⟩ := h4
      exact ⟨arr2, e, _, he, by rw [h5, Nat.zero_add]⟩
  refine ⟨upd β id B, reroot [l, i, j] [id] ω, ⟨h.nt, h.df, fun k => ((h.tm k).upd (lkT_no (Sat.fresh_tm hf) k)).move reroot_mv, fun k g blk hk hg => ?_, fun x k q e => ?_, fun x q e => ?_⟩, reroot_ext, fun k hk => upd_other _ _ hk, b, arr, u, hb, hrow, hu0, own⟩
  · rw [lkH_putH, lkH_putH] at hk
    by_cases e1 : k = l
    · subst e1
      rw [if_pos rfl] at hk
      injection hk with hk
      injection hk with hk1 hk2
      subst hk2
      refine ⟨hz, hb1, hb2, .inr ⟨b, arr, by rw [upd_other _ _ hlid]; exact hb, reroot_miss hω (strip_long _ _ _), hrow, hsz, hcap, fun i' hi' j' hj' => ?_⟩⟩
      simp only [arrCell]
      split
      · rename_i e
        obtain ⟨e1, e2⟩ := e
        subst e1 e2
        exact ⟨u, hu0, own.plainMove ⟨fun _ _ e => ⟨rfl, e⟩, fun _ _ h => h⟩ trivial⟩
      · rename_i e
        obtain ⟨v, hv, hr⟩ := hc i' hi' j' hj'
        refine ⟨v, hv, Cell.Rep.move (p := [k, i', j']) reroot_mv (fun x hx q hq => ⟨rfl, reroot_miss hq ?_⟩) (Cell.Rep.upd (c := .nc (f i' j')) rfl hr)⟩
        exact strip_ne3 (fun e' => e ⟨e'.1.symm, e'.2.symm⟩)
    · rw [if_neg e1] at hk
      by_cases e2 : k = id
      · subst e2
        rw [if_pos rfl] at hk
        injection hk with hk
        injection hk with hk1 hk2
        subst hk2
        refine ⟨hz2, hnb2, hn2, ?_⟩
        rcases hB with ⟨h1, h2, h3⟩ | ⟨b2, c2, arr2, h1, h2, h3, h4, h5, h6, h7, h8⟩
        · exact .inl ⟨by rw [upd_same, h1], h2⟩
        · refine .inr ⟨b2, arr2, by rw [upd_same, h1], reroot_hit (p := [l, i, j]) (r := []) h3, h4, by rw [h5]; exact Nat.mul_le_mul_right _ h6, (fun c0 hc0 => by cases hc0), fun x hx y hy => ?_⟩
          obtain ⟨v, hv, hr⟩ := h8 x hx y hy
          refine ⟨v, hv, NC.Rep.move (p := [l, i, j] ++ [x, y]) (p' := [k, x, y]) (fun b _ e => ⟨rfl, reroot_none e⟩) (fun b hb q hq => ⟨rfl, ?_⟩) hr⟩
          rw [List.append_assoc] at hq
          have := reroot_hit (p' := [k]) hq
          simpa using this
      · rw [if_neg e2] at hk
        have hr := h.hp k g blk hk hg
        exact (hr.upd e2 (lkH_no (Sat.fresh_hp hf) hk).2).move reroot_mv rfl (fun b hb q hq => ⟨rfl, reroot_miss hq (strip_ne (fun e => e1 e.symm))⟩)
  · rw [lkH_putH, lkH_putH]
    by_cases e1 : k = l
    · exact ⟨_, if_pos e1⟩
    · rw [if_neg e1]
      by_cases e2 : k = id
      · exact ⟨_, if_pos e2⟩
      · rw [if_neg e2]
        rcases reroot_some e with ⟨r, h1, h2⟩ | ⟨h1, _⟩
        · injection h2 with h2 _
          exact absurd h2 e2
        · exact h.cl x k q h1
  · rcases reroot_some e with ⟨r, h1, h2⟩ | ⟨h1, _⟩
    · exact h.lt x _ h1
    · exact h.lt x _ h1
end Go.Ice
end

section
set_option linter.unusedVariables false
set_option linter.unusedSimpArgs false
namespace Go.Ice

/-! ### Types, as a table -/
inductive ZC where
  | int (k : IntKind) | bool | str | nil | any
  deriving DecidableEq
inductive TK where
  | strct (fs : List (Nat × Nat))
  | arr (n e : Nat)
  | slice (e : Nat)
  | str
  | map (k e : Nat)
  | bool
  | int (k : IntKind)
  | other
  | bad
  deriving DecidableEq
structure TI where
  kind : TK
  size : Nat
  bytes : Nat
  zero : List ZC
def TI.isAgg (t : TI) : Bool := match t.kind with
  | .strct _ => true
  | .arr _ _ => true
  | _ => false
def ZC.cell : ZC → Cell
  | .int k => .int k 0
  | .bool => .bool false
  | .str => .str []
  | .nil => .nil
  | .any => .any
def zcOf : Value → ZC
  | .int k n => match n with
    | .ofNat 0 => .int k
    | _ => .any
  | .bool false => .bool
  | .string s => match s.data.toList with
    | [] => .str
    | _ => .any
  | .slice none 0 0 => .nil
  | _ => .any
def lkI : List (Nat × TI) → Nat → TI
  | [], _ => ⟨.bad, 0, 0, []⟩
  | (k, v) :: r, j => match Nat.beq k j with
    | true => v
    | false => lkI r j
def fieldsOf (P : Program) (fs : List Field) : List (Nat × Nat) := fs.map fun f => (f.offset, P.cellsOf f.type)
def tkOk (P : Program) (t : Nat) : TK → Bool
  | .strct l => match P.underlying t with
    | some (.struct fs) => decide (fieldsOf P fs.toList = l) && l.all fun x => decide (0 < x.2)
    | _ => false
  | .arr n e => match P.underlying t with
    | some (.array n' e') => decide (n' = n) && decide (e' = e)
    | _ => false
  | .slice e => match P.underlying t with
    | some (.slice e') => decide (e' = e)
    | _ => false
  | .str => match P.underlying t with
    | some .string => true
    | _ => false
  | .map k e => match P.underlying t with
    | some (.map k' e') => decide (k' = k) && decide (e' = e)
    | _ => false
  | .bool => match P.underlying t with
    | some .bool => true
    | _ => false
  | .int k => match P.underlying t with
    | some (.int k') => decide (k' = k)
    | _ => false
  | .other => match P.underlying t with
    | some (.int _) => true
    | some (.pointer _) => true
    | some (.func _ _ _) => true
    | _ => false
  | .bad => true
def tiOk (P : Program) (t : Nat) (ti : TI) : Bool := match P.info? t with
  | some i => decide (i.size = ti.size) && decide (i.bytes = ti.bytes) && decide (0 < i.size) && tkOk P t ti.kind &&
    (match i.zero with
     | some z => z.cells.toList.all (fun v => v.oneCell') && decide (z.cells.toList.map zcOf = ti.zero) && decide (z.cells.size = ti.size) && (match z with
        | .agg _ => ti.isAgg
        | .tuple _ => false
        | _ => !ti.isAgg)
     | none => false)
  | none => false
def TOk (P : Program) (T : Nat → TI) : Prop := ∀ t, (T t).kind ≠ .bad → tiOk P t (T t) = true

/-! ### Operands -/
def ofConst : Value → EV
  | .int k n => .int k n
  | .bool b => .bool b
  | .string s => .str s.data.toList
  | .slice none 0 0 => .c .nil
  | _ => .any
def AS.val (σ : AS) : Operand → TV
  | .tmp t => lkT σ.tm t
  | .const v => .e (ofConst v)
  | .func f => .e (.c (.fn f []))
  | .global _ => .e .any
def opT (σ : AS) (g : Gd) (x : Operand) : TV :=
  match σ.val x with
  | .wh s p x => match g with
    | some (s', p') => match Nat.beq s s', p, p' with
      | true, true, true => .e x
      | true, false, false => .e x
      | _, _, _ => .wh s p x
    | none => .wh s p x
  | x => x
def opE (σ : AS) (g : Gd) (x : Operand) : EV :=
  match opT σ g x with
  | .e x => x
  | _ => .any
def cellsOf : EV → List Cell
  | .c x => [x]
  | .agg cs => cs
  | .u => []
def lkB (σ : AS) (g : Gd) (l : Nat) : Option Blk :=
  match lkH σ.hp l with
  | some (none, b) => some b
  | some (some (s, p), b) => match g with
    | some (s', p') => match Nat.beq s s', p, p' with
      | true, true, true => some b
      | true, false, false => some b
      | _, _, _ => none
    | none => none
  | none => none

/-- An obligation. -/
structure Ob (p : Prop) : Prop where out : p
def gCond (σ : AS) (s : Nat) (p : Bool) : Prop := match lkT σ.tm s with
  | .e (.c (.nc (.f (.bool b)))) => b = p
  | .wh _ _ (.c (.nc (.f (.bool b)))) => b = p
  | _ => True
def obG (σ : AS) (g : Gd) (q : Prop) : Prop := match g with
  | none => Ob q
  | some (s, p) => Ob (gCond σ s p → q)

section
variable {P : Program} {σ : AS} {a : Act} {w : World} {β : Nat → Option Nat} {ω : Nat → Option (List Nat)}

/-- Constants that we can tell fit their kinds: the model's own check of a program sees to it; here it is asked. -/
def constOk : Value → Bool
  | .int k n => decide (k.min ≤ n) && decide (n ≤ k.max)
  | .string s => decide (s.size ≤ 1000000)
  | _ => true
def opOk : Operand → Bool
  | .const v => constOk v
  | _ => true

theorem ofConst_rep {v : Value} (h : constOk v = true) : (ofConst v).Rep w β ω v := by
  unfold ofConst
  split
  · simp only [constOk, Bool.and_eq_true, decide_eq_true_eq] at h
    exact ⟨trivial, rfl, h⟩
  · exact ⟨trivial, rfl⟩
  · rename_i s
    simp only [constOk, decide_eq_true_eq] at h
    refine ⟨trivial, ?_, ?_⟩
    · simp [strV]
    · have e : s.data.toList.length = s.size := by rw [Array.length_toList]; rfl
      have e2 : 1000000 ≤ 2 * big47 := by decide
      omega
  · exact ⟨trivial, rfl⟩
  · trivial

theorem val_rep (h : Sat σ a w β ω) {x : Operand} (hx : opOk x = true) : (σ.val x).Rep w β ω a (a.eval x) := by
  cases x with
  | tmp t => exact h.tm t
  | const v => exact ofConst_rep hx
  | global g => trivial
  | func f => exact ⟨trivial, [], rfl, rfl⟩
theorem opT_rep (h : Sat σ a w β ω) {g : Gd} (hg : gTrue a g) {x : Operand} (hx : opOk x = true) : (opT σ g x).Rep w β ω a (a.eval x) := by
  have hv := val_rep h hx
  unfold opT
  split
  · rename_i s p y e
    rw [e] at hv
    cases g with
    | none => exact hv
    | some sp =>
      obtain ⟨s', p'⟩ := sp
      simp only
      split
      · rename_i hb
        have := Nat.eq_of_beq_eq_true hb
        subst this
        exact hv.1 hg
      · rename_i hb
        have := Nat.eq_of_beq_eq_true hb
        subst this
        exact hv.1 hg
      · exact hv
  · exact hv
theorem opE_rep (h : Sat σ a w β ω) {g : Gd} (hg : gTrue a g) {x : Operand} (hx : opOk x = true) : (opE σ g x).Rep w β ω (a.eval x) := by
  have hv := opT_rep h hg hx
  unfold opE
  split
  · rename_i y e; rw [e] at hv; exact hv
  · trivial
theorem lkB_rep (h : Sat σ a w β ω) {g : Gd} (hg : gTrue a g) {l : Nat} {b : Blk} (hl : lkB σ g l = some b) : b.Rep w β ω l := by
  unfold lkB at hl
  split at hl
  · rename_i b' e
    injection hl with hl
    subst hl
    exact h.hp l none b' e trivial
  · rename_i s p b' e
    split at hl
    · rename_i s' p'
      split at hl
      · rename_i hb
        injection hl with hl
        subst hl
        have := Nat.eq_of_beq_eq_true hb
        subst this
        exact h.hp l _ b' e hg
      · rename_i hb
        injection hl with hl
        subst hl
        have := Nat.eq_of_beq_eq_true hb
        subst this
        exact h.hp l _ b' e hg
      · cases hl
    · cases hl
  · cases hl
theorem gCond_of (h : Sat σ a w β ω) {s : Nat} {p : Bool} (hg : gTrue a (some (s, p))) : gCond σ s p := by
  have hs := h.tm s
  simp only [gTrue] at hg
  rw [hg] at hs
  unfold gCond
  split
  · rename_i b e
    rw [e] at hs
    have := hs.2
    simp only [Cell.Rep, NC.Rep, FC.Rep] at this
    injection this with this
    exact this.symm
  · rename_i s' p' b e
    rw [e] at hs
    by_cases hc : a.tmps.getD s' undef = .bool p'
    · have := (hs.1 hc).2
      simp only [Cell.Rep, NC.Rep, FC.Rep] at this
      injection this with this
      exact this.symm
    · have := hs.2 hc
      simp [undef] at this
  · trivial
theorem obG_out (h : Sat σ a w β ω) {g : Gd} (hg : gTrue a g) {q : Prop} (ho : obG σ g q) : q := by
  cases g with
  | none => exact ho.out
  | some sp => obtain ⟨s, p⟩ := sp; exact ho.out (gCond_of h hg)
end
end Go.Ice
end

section
set_option linter.unusedVariables false
set_option linter.unusedSimpArgs false
namespace Go.Ice

/-! ### What an operation does to an abstract state -/
def newTag (id : Nat) (g : Gd) (l : Nat) : Gd := match g with
  | none => none
  | some x => match Nat.ble id l with
    | true => some x
    | false => none
def edH (id : Nat) (g : Gd) : List (Nat × HE) → Eds → List (Nat × HE)
  | h, [] => h
  | h, (l, some b) :: r => edH id g (putH h l (newTag id g l, b)) r
  | h, (l, none) :: r => edH id g (delH h l) r
def tmPut (g : Gd) (d : Nat) (v : TV) (tm : List (Nat × TV)) : List (Nat × TV) :=
  match g, v with
  | none, v => (d, filt [d] v) :: tm
  | some (s, p), .e x => match Nat.beq s d with
    | true => (d, .e .any) :: tm
    | false => (d, .wh s p x) :: tm
  | some _, _ => (d, .e .any) :: tm
def AS.app (σ : AS) (id : Nat) (g : Gd) (d : Option Nat) (v : TV) (es : Eds) : AS :=
  { tm := match d with
      | none => σ.tm
      | some d => tmPut g d v σ.tm
    hp := edH id g σ.hp es
    nx := σ.nx
    nt := σ.nt }
def gdOk (g : Gd) (d : Nat) : Bool := match g with
  | none => true
  | some (s, _) => !(Nat.beq s d)
def dstOk (σ : AS) (g : Gd) (d : Option Nat) : Bool := match d with
  | none => true
  | some d => Nat.blt d σ.nt && tagNo d σ.hp && gdOk g d

/-- What is shown of one operation, where its guard lets it run. -/
def OpSound (P : Program) (o : Oper) (σ : AS) (id : Nat) (g : Gd) (F : TV → Eds → Prop) : Prop :=
  ∀ a w β ω, Sat σ a w β ω → gTrue a g → o.wp P a w (fun a' w' => ∃ v es β' ω', F v es ∧ Sat (σ.app id g o.dst v es) a' w' β' ω' ∧ Ext w ω w' ω' ∧
    ∀ l, l < id ∨ id + 16 ≤ l → β' l = β l) (fun _ _ _ => False)

section
variable {P : Program} {σ : AS} {a : Act} {w : World} {β : Nat → Option Nat} {ω : Nat → Option (List Nat)}

theorem put_none (a : Act) (v : Value) : a.put none v = a := rfl
theorem TV.Rep.put {x : TV} {v : Value} (h : x.Rep w β ω a v) {d : Nat} (hd : d < a.tmps.size) (u : Value) : (filt [d] x).Rep w β ω (a.put (some d) u) v :=
  h.other fun s hs => by
    simp only [Act.put]
    rw [getD_set _ _ _ _ hd, if_neg (fun e => hs e.symm)]

theorem Sat.putT (h : Sat σ a w β ω) {g : Gd} (hg : gTrue a g) {d : Nat} (hd : d < σ.nt) (ht : tagNo d σ.hp = true) {x : TV} {v : Value} (hx : x.Rep w β ω a v) :
    Sat { σ with tm := tmPut g d x σ.tm } (a.put (some d) v) w β ω := by
  have hd' : d < a.tmps.size := by rw [h.nt]; exact hd
  cases g with
  | none => exact h.put hd ht (hx.put hd' v)
  | some sp =>
    obtain ⟨s, p⟩ := sp
    cases x with
    | e x =>
      simp only [tmPut]
      cases hb : Nat.beq s d with
      | true => exact h.put hd ht trivial
      | false =>
        refine h.put hd ht ⟨fun _ => hx, fun hn => absurd ?_ hn⟩
        simp only [Act.put, gTrue] at hg ⊢
        rw [getD_set _ _ _ _ hd', if_neg (fun e => Nat.ne_of_beq_eq_false hb e.symm)]
        exact hg
    | tup l => exact h.put hd ht trivial
    | wh s' p' x => exact h.put hd ht trivial

theorem dstOk_some {g : Gd} {d : Nat} (h : dstOk σ g (some d) = true) : d < σ.nt ∧ tagNo d σ.hp = true := by
  simp only [dstOk, Bool.and_eq_true] at h
  exact ⟨by have := h.1.1; simpa using this, h.1.2⟩
theorem dstOk_tag {g : Gd} {d id l : Nat} (h : dstOk σ g (some d) = true) : match newTag id g l with
    | none => True
    | some (s, _) => s ≠ d := by
  simp only [dstOk, Bool.and_eq_true] at h
  cases g with
  | none => trivial
  | some sp =>
    obtain ⟨s, p⟩ := sp
    have h := h.2
    simp only [gdOk] at h
    simp only [newTag]
    cases Nat.ble id l with
    | true =>
      simp only
      intro e
      subst e
      simp at h
    | false => trivial

/-- An operation that hands back a value and leaves the heap's entries alone (the world may grow). -/
theorem OpSound.value {o : Oper} {id : Nat} {g : Gd} {F : TV → Eds → Prop} (hd : dstOk σ g o.dst = true)
    (h : ∀ a w β ω, Sat σ a w β ω → gTrue a g → ∃ v w' tv, (execOp a.eval o).run P w = .ok (.value v) w' ∧ Grew w w' ∧ F tv [] ∧ tv.Rep w β ω a v) : OpSound P o σ id g F := by
  intro a w β ω hs hg
  obtain ⟨v, w', tv, hrun, hgr, hF, hrep⟩ := h a w β ω hs hg
  simp only [Oper.wp, hrun, Oper.upon]
  refine ⟨tv, [], β, ω, hF, ?_, hgr.ext, fun _ _ => rfl⟩
  cases hdd : o.dst with
  | none => exact hs.grow hgr
  | some d =>
    rw [hdd] at hd
    obtain ⟨h1, h2⟩ := dstOk_some hd
    exact (hs.grow hgr).putT hg h1 h2 (hrep.move (hgr.mv ω))
theorem OpSound.pure {o : Oper} {id : Nat} {g : Gd} {F : TV → Eds → Prop} (hd : dstOk σ g o.dst = true)
    (h : ∀ a w β ω, Sat σ a w β ω → gTrue a g → ∃ v tv, (execOp a.eval o).run P w = .ok (.value v) w ∧ F tv [] ∧ tv.Rep w β ω a v) : OpSound P o σ id g F :=
  .value hd fun a w β ω hs hg => let ⟨v, tv, h1, h2, h3⟩ := h a w β ω hs hg; ⟨v, w, tv, h1, Grew.refl w, h2, h3⟩

/-! ### move, assign, pick -/
theorem move_sound {o : Oper} {x : Operand} (ho : o.op = .move x ∨ o.op = .assign x) (hx : opOk x = true) {id : Nat} {g : Gd} {F : TV → Eds → Prop} (hd : dstOk σ g o.dst = true) (h : F (opT σ g x) []) :
    OpSound P o σ id g F :=
  .pure hd fun a w β ω hs hg => ⟨a.eval x, _, by rcases ho with ho | ho <;> simp [execOp, ho, Sem.run, pure], h, opT_rep hs hg hx⟩

def stPick (σ : AS) (g : Gd) (c a b : Operand) (F : TV → Eds → Prop) : Prop :=
  match c with
  | .tmp s => match opE σ g c with
    | .c (.nc (.f (.bool bc))) =>
      match opE σ (some (s, true)) a, opE σ (some (s, false)) b with
      | .c (.nc (.f (.bool x))), .c (.nc (.f (.bool y))) => F (.e (.bool (cond bc x y))) []
      | _, _ => False
    | _ => False
  | _ => False
theorem bool_rep {b : Bool} {v : Value} (h : (EV.bool b).Rep w β ω v) : v = .bool b := h.2
theorem pick_sound {o : Oper} {c x y : Operand} (ho : o.op = .pick c x y) (hx : opOk x = true) (hy : opOk y = true) {id : Nat} {g : Gd} {F : TV → Eds → Prop} (hd : dstOk σ g o.dst = true) (h : stPick σ g c x y F) :
    OpSound P o σ id g F := by
  unfold stPick at h
  split at h
  · rename_i s
    split at h
    · rename_i bc e
      split at h
      · rename_i bx byy ex ey
        refine .pure hd fun a w β ω hs hg => ?_
        have hc := opE_rep hs hg (x := .tmp s) rfl
        rw [e] at hc
        have hc := bool_rep hc
        refine ⟨.bool (cond bc bx byy), _, ?_, h, ⟨trivial, rfl⟩⟩
        have hgs : gTrue a (some (s, bc)) := hc
        simp only [execOp, ho, hc]
        cases bc with
        | true =>
          have h1 := opE_rep hs hgs hx
          rw [ex] at h1
          have h1 := bool_rep h1
          simp [asBool, bind, Sem.bind, pure, Sem.run, h1]
        | false =>
          have h1 := opE_rep hs hgs hy
          rw [ey] at h1
          have h1 := bool_rep h1
          simp [asBool, bind, Sem.bind, pure, Sem.run, h1]
      · exact h.elim
    · exact h.elim
  · exact h.elim
end
end Go.Ice
end

section
set_option linter.unusedVariables false
set_option linter.unusedSimpArgs false
namespace Go.Ice

theorem wrap_in {k : IntKind} {n : Int} (h : inK k n) : k.wrap n = n := by
  cases k <;> simp only [inK, IntKind.min, IntKind.max, IntKind.signed, IntKind.bits] at h
  · exact IntWalk.i8_in n (by simpa using h)
  · exact IntWalk.i16_in n (by simpa using h)
  · exact IntWalk.i32_in n (by simpa using h)
  · exact IntWalk.i64_in n (by simpa using h)
  · exact IntWalk.u8_in n (by simpa using h)
  · exact IntWalk.u16_in n (by simpa using h)
  · exact IntWalk.u32_in n (by simpa using h)
  · exact IntWalk.u64_in n (by simpa using h)
theorem inK_wrap (k : IntKind) (n : Int) : inK k (k.wrap n) := by
  cases k <;> simp only [inK, IntKind.min, IntKind.max, IntKind.signed, IntKind.bits, IntKind.wrap] <;> (constructor <;> (repeat' split) <;> simp_all <;> omega)

def isBool : TK → Bool
  | .bool => true
  | _ => false
def stBin (T : Nat → TI) (σ : AS) (g : Gd) (op : BinOp) (t : Nat) (x y : EV) (F : TV → Eds → Prop) : Prop :=
  match x, y with
  | .c (.nc (.f (.int k a))), .c (.nc (.f (.int k' b))) => match decide (k = k') with
    | true => match op with
      | .add => (obG σ g (inK k (a + b)) ∧ F (.e (.int k (a + b))) []) ∨ F (.e (.int k (k.wrap (a + b)))) []
      | .sub => (obG σ g (inK k (a - b)) ∧ F (.e (.int k (a - b))) []) ∨ F (.e (.int k (k.wrap (a - b)))) []
      | .mul => (obG σ g (inK k (a * b)) ∧ F (.e (.int k (a * b))) []) ∨ F (.e (.int k (k.wrap (a * b)))) []
      | .quo => obG σ g (0 ≤ a ∧ 0 < b) ∧ F (.e (.int k (a / b))) []
      | .rem => obG σ g (0 ≤ a ∧ 0 < b) ∧ F (.e (.int k (a % b))) []
      | .eql => F (.e (.bool (a == b))) []
      | .neq => F (.e (.bool (!(a == b)))) []
      | .lss => F (.e (.bool (decide (a < b)))) []
      | .leq => F (.e (.bool (decide (a ≤ b)))) []
      | .gtr => F (.e (.bool (decide (b < a)))) []
      | .geq => F (.e (.bool (decide (b ≤ a)))) []
      | _ => False
    | false => False
  | .c (.nc (.f (.str a))), .c (.nc (.f (.str b))) => match op with
    | .eql => F (.e (.bool (a == b))) []
    | .neq => F (.e (.bool (!(a == b)))) []
    | .lss => F (.e (.bool (Op.bytesLess a b))) []
    | .leq => F (.e (.bool (Op.bytesLess a b || a == b))) []
    | .gtr => F (.e (.bool (!(Op.bytesLess a b || a == b)))) []
    | .geq => F (.e (.bool (!(Op.bytesLess a b)))) []
    | .add => obG σ g (a.length + b.length ≤ 2 * big47) ∧ F (.e (.str (a ++ b))) []
    | _ => False
  | .c (.nc (.f (.bool a))), .c (.nc (.f (.bool b))) => match isBool (T t).kind with
    | true => match op with
      | .eql => F (.e (.bool (a == b))) []
      | .neq => F (.e (.bool (!(a == b)))) []
      | _ => False
    | false => False
  | _, _ => False

section
variable {P : Program} {σ : AS} {a : Act} {w : World} {β : Nat → Option Nat} {ω : Nat → Option (List Nat)}

theorem int_rep {k : IntKind} {n : Int} {v : Value} (h : (EV.int k n).Rep w β ω v) : v = .int k n ∧ inK k n := h.2
theorem str_rep {s : List UInt8} {v : Value} (h : (EV.str s).Rep w β ω v) : v = strV s ∧ s.length ≤ 2 * big47 := h.2
theorem int_mk {k : IntKind} {n : Int} (h : inK k n) : (TV.e (EV.int k n)).Rep w β ω a (.int k n) := ⟨trivial, rfl, h⟩
theorem bool_mk {b : Bool} : (TV.e (EV.bool b)).Rep w β ω a (.bool b) := ⟨trivial, rfl⟩
theorem str_mk {s : List UInt8} (h : s.length ≤ 2 * big47) : (TV.e (EV.str s)).Rep w β ω a (strV s) := ⟨trivial, rfl, h⟩

theorem inK_div {k : IntKind} {x y : Int} (hx : inK k x) (h0 : 0 ≤ x) (hy : 0 < y) : inK k (x / y) := by
  have h1 : 0 ≤ x / y := Int.ediv_nonneg h0 (by omega)
  have h2 : x / y ≤ x := Int.ediv_le_self y h0
  refine ⟨?_, Int.le_trans h2 hx.2⟩
  have : k.min ≤ 0 := by cases k <;> decide
  omega
theorem inK_mod {k : IntKind} {x y : Int} (hx : inK k x) (h0 : 0 ≤ x) (hy : 0 < y) : inK k (x % y) := by
  have h1 : 0 ≤ x % y := Int.emod_nonneg x (by omega)
  have h2 : x % y ≤ x := by
    have := Int.mul_ediv_add_emod x y
    have h3 : 0 ≤ x / y := Int.ediv_nonneg h0 (by omega)
    have h4 : 0 ≤ y * (x / y) := Int.mul_nonneg (by omega) h3
    omega
  refine ⟨?_, Int.le_trans h2 hx.2⟩
  have : k.min ≤ 0 := by cases k <;> decide
  omega

theorem run_binOp {o : Oper} {op : BinOp} {t t' : TypeId} {x y : Operand} (ho : o.op = .binOp op t x y t') {vx vy v : Value} (hx : a.eval x = vx) (hy : a.eval y = vy)
    (hn : ∀ z, vx ≠ .agg z) (hi : vx ≠ .nilIface) (h : (binOp op t vx vy).run P w = .ok v w) : (execOp a.eval o).run P w = .ok (.value v) w := by
  have hg : (eqGuard op t x y vx vy).run P w = .ok () w := by
    cases vx <;> first
      | exact absurd rfl (hn _)
      | exact absurd rfl hi
      | (cases op <;> simp [eqGuard, bind, Sem.bind, pure, Sem.run])
  simp only [execOp, ho, hx, hy]
  simp [Sem.run_bind', hg, h, Result.andThen, bind, pure, Sem.run]

theorem kind_under {T : Nat → TI} (hT : TOk P T) {t : Nat} {k : TK} (h : (T t).kind = k) (hk : k ≠ .bad) : tkOk P t k = true := by
  have := hT t (by rw [h]; exact hk)
  unfold tiOk at this
  split at this
  · simp only [Bool.and_eq_true] at this
    rw [← h]
    exact this.1.2
  · cases this
theorem under_bool {T : Nat → TI} (hT : TOk P T) {t : Nat} (h : (T t).kind = .bool) : P.underlying t = some .bool := by
  have := kind_under hT h (by rintro ⟨⟩)
  simp only [tkOk] at this
  split at this
  · assumption
  · cases this

theorem equalIn_bool {d : Nat} {t : TypeId} (hu : P.underlying t = some .bool) (x y : Bool) : (Op.equalIn (d + 1) t (.bool x) (.bool y)).run P w = .ok (x == y) w := by
  simp [Op.equalIn, Sem.run_bind', run_underlying hu, Result.andThen, pure, Sem.run, bind]
theorem bin_sound {T : Nat → TI} (hT : TOk P T) {o : Oper} {op : BinOp} {t t' : TypeId} {x y : Operand} (ho : o.op = .binOp op t x y t') (hx : opOk x = true) (hy : opOk y = true) {id : Nat} {g : Gd} {F : TV → Eds → Prop} (hd : dstOk σ g o.dst = true)
    (h : stBin T σ g op t (opE σ g x) (opE σ g y) F) : OpSound P o σ id g F := by
  refine .pure hd fun a w β ω hs hg => ?_
  have rx := opE_rep hs hg hx
  have ry := opE_rep hs hg hy
  generalize opE σ g x = X at *
  generalize opE σ g y = Y at *
  unfold stBin at h
  split at h
  · rename_i k m k' n
    obtain ⟨ex, ix⟩ := int_rep rx
    obtain ⟨ey, iy⟩ := int_rep ry
    split at h
    · rename_i hk
      have hk := of_decide_eq_true hk
      subst hk
      have key : ∀ v, (binOp op t (.int k m) (.int k n)).run P w = .ok v w → (execOp a.eval o).run P w = .ok (.value v) w :=
        fun v hv => run_binOp ho ex ey (by rintro z ⟨⟩) (by rintro ⟨⟩) hv
      split at h
      · rcases h with ⟨hob, h⟩ | h
        · have := obG_out hs hg hob
          exact ⟨_, _, key _ (by simp [binOp, Op.intArith, pure, Sem.run, wrap_in this]), h, int_mk this⟩
        · exact ⟨_, _, key _ (by simp [binOp, Op.intArith, pure, Sem.run]), h, int_mk (inK_wrap _ _)⟩
      · rcases h with ⟨hob, h⟩ | h
        · have := obG_out hs hg hob
          exact ⟨_, _, key _ (by simp [binOp, Op.intArith, pure, Sem.run, wrap_in this]), h, int_mk this⟩
        · exact ⟨_, _, key _ (by simp [binOp, Op.intArith, pure, Sem.run]), h, int_mk (inK_wrap _ _)⟩
      · rcases h with ⟨hob, h⟩ | h
        · have := obG_out hs hg hob
          exact ⟨_, _, key _ (by simp [binOp, Op.intArith, pure, Sem.run, wrap_in this]), h, int_mk this⟩
        · exact ⟨_, _, key _ (by simp [binOp, Op.intArith, pure, Sem.run]), h, int_mk (inK_wrap _ _)⟩
      · obtain ⟨hob, h⟩ := h
        obtain ⟨h0, h1⟩ := obG_out hs hg hob
        have hin := inK_div ix h0 h1
        have hne : n ≠ 0 := by omega
        have e : m.tdiv n = m / n := Int.tdiv_eq_ediv_of_nonneg h0
        exact ⟨_, _, key _ (by simp [binOp, Op.intDiv, pure, Sem.run, hne, e, wrap_in hin]), h, int_mk hin⟩
      · obtain ⟨hob, h⟩ := h
        obtain ⟨h0, h1⟩ := obG_out hs hg hob
        have hin := inK_mod ix h0 h1
        have hne : n ≠ 0 := by omega
        have e : m.tmod n = m % n := Int.tmod_eq_emod_of_nonneg h0
        exact ⟨_, _, key _ (by simp [binOp, Op.intDiv, pure, Sem.run, hne, e]), h, int_mk hin⟩
      · exact ⟨_, _, key _ (by simp [binOp, Op.intCmp, pure, Sem.run]), h, bool_mk⟩
      · exact ⟨_, _, key _ (by simp [binOp, Op.intCmp, pure, Sem.run, bne]), h, bool_mk⟩
      · exact ⟨_, _, key _ (by simp [binOp, Op.intCmp, pure, Sem.run]), h, bool_mk⟩
      · exact ⟨_, _, key _ (by simp [binOp, Op.intCmp, pure, Sem.run]), h, bool_mk⟩
      · exact ⟨_, _, key _ (by simp [binOp, Op.intCmp, pure, Sem.run]), h, bool_mk⟩
      · exact ⟨_, _, key _ (by simp [binOp, Op.intCmp, pure, Sem.run]), h, bool_mk⟩
      · exact h.elim
    · exact h.elim
  · rename_i s1 s2
    obtain ⟨ex, lx⟩ := str_rep rx
    obtain ⟨ey, ly⟩ := str_rep ry
    have key : ∀ v, (binOp op t (strV s1) (strV s2)).run P w = .ok v w → (execOp a.eval o).run P w = .ok (.value v) w :=
      fun v hv => run_binOp ho ex ey (by rintro z ⟨⟩) (by rintro ⟨⟩) hv
    split at h
    · exact ⟨_, _, key _ (by simp [strV, binOp, Op.stringOp, pure, Sem.run, ByteArray.toList_mk]), h, bool_mk⟩
    · exact ⟨_, _, key _ (by simp [strV, binOp, Op.stringOp, pure, Sem.run, ByteArray.toList_mk]), h, bool_mk⟩
    · exact ⟨_, _, key _ (by simp [strV, binOp, Op.stringOp, pure, Sem.run, ByteArray.toList_mk]), h, bool_mk⟩
    · exact ⟨_, _, key _ (by simp [strV, binOp, Op.stringOp, pure, Sem.run, ByteArray.toList_mk]), h, bool_mk⟩
    · exact ⟨_, _, key _ (by simp [strV, binOp, Op.stringOp, pure, Sem.run, ByteArray.toList_mk]), h, bool_mk⟩
    · exact ⟨_, _, key _ (by simp [strV, binOp, Op.stringOp, pure, Sem.run, ByteArray.toList_mk]), h, bool_mk⟩
    · obtain ⟨hob, h⟩ := h
      have hl := obG_out hs hg hob
      refine ⟨_, _, key _ ?_, h, str_mk (by simpa using hl)⟩
      have hn : ¬ ((s1.length : Int) + (s2.length : Int) > IntKind.i64.max) := by
        have : IntKind.i64.max = 9223372036854775807 := by decide
        have e : 2 * big47 = 281474976710656 := by decide
        omega
      simp only [strV, binOp, Op.stringOp, ByteArray.size, List.size_toArray]
      rw [if_neg (by simpa using hn)]
      simp only [pure, Sem.run]
      have e : (⟨s1.toArray⟩ : ByteArray) ++ ⟨s2.toArray⟩ = ⟨(s1 ++ s2).toArray⟩ := by
        ext1
        simp
      rw [e]
    · exact h.elim
  · rename_i b1 b2
    have ex := bool_rep rx
    have ey := bool_rep ry
    split at h
    · rename_i hk
      have hu : P.underlying t = some .bool := under_bool hT (by
        cases hkk : (T t).kind <;> rw [hkk] at hk <;> first | rfl | cases hk)
      have key : ∀ v, (binOp op t (.bool b1) (.bool b2)).run P w = .ok v w → (execOp a.eval o).run P w = .ok (.value v) w :=
        fun v hv => run_binOp ho ex ey (by rintro z ⟨⟩) (by rintro ⟨⟩) hv
      have he : (Op.equal t (.bool b1) (.bool b2)).run P w = .ok (b1 == b2) w := by
        exact equalIn_bool (d := 9999) hu b1 b2
      split at h
      · exact ⟨_, _, key _ (by simp [binOp, Sem.run_bind', he, Result.andThen, pure, Sem.run, bind]), h, bool_mk⟩
      · exact ⟨_, _, key _ (by simp [binOp, Sem.run_bind', he, Result.andThen, pure, Sem.run, bind]), h, bool_mk⟩
      · exact h.elim
    · exact h.elim
  · exact h.elim
end
end Go.Ice
end

section
set_option linter.unusedVariables false
set_option linter.unusedSimpArgs false
namespace Go.Ice

section
variable {P : Program} {T : Nat → TI} {σ : AS} {a : Act} {w : World} {β : Nat → Option Nat} {ω : Nat → Option (List Nat)}

structure TFacts (P : Program) (t : Nat) (ti : TI) (i : TypeInfo) (z : Value) : Prop where
  info : P.info? t = some i
  size : i.size = ti.size
  bytes : i.bytes = ti.bytes
  pos : 0 < ti.size
  zero : i.zero = some z
  zone : ∀ v ∈ z.cells.toList, v.oneCell' = true
  zc : z.cells.toList.map zcOf = ti.zero
  zs : z.cells.size = ti.size
  agg : ti.isAgg = true → ∃ cs, z = .agg cs
  one : ti.isAgg = false → z.cells = #[z] ∧ ∀ cs, z ≠ .agg cs
theorem ti_facts (hT : TOk P T) {t : Nat} (h : (T t).kind ≠ .bad) : ∃ i z, TFacts P t (T t) i z := by
  have := hT t h
  unfold tiOk at this
  split at this
  · rename_i i hi
    simp only [Bool.and_eq_true, decide_eq_true_eq] at this
    obtain ⟨⟨⟨⟨h1, h2⟩, h3⟩, h4⟩, h5⟩ := this
    split at h5
    · rename_i z hz
      simp only [Bool.and_eq_true, decide_eq_true_eq] at h5
      obtain ⟨⟨⟨h0, h6⟩, h7⟩, h8⟩ := h5
      refine ⟨i, z, hi, h1, h2, by omega, hz, fun v hv => List.all_eq_true.1 h0 v hv, h6, h7, fun ha => ?_, fun ha => ?_⟩
      · cases z <;> simp_all
      · cases z <;> simp_all [Value.cells]
    · cases h5
  · cases this
theorem isAgg_run (hT : TOk P T) {t : Nat} (h : (T t).kind ≠ .bad) : (isAgg t).run P w = .ok (T t).isAgg w := by
  have hk := kind_under hT (t := t) rfl h
  unfold isAgg
  cases hkk : (T t).kind with
  | bad => exact absurd hkk h
  | _ =>
    rw [hkk] at hk
    simp only [tkOk] at hk
    split at hk <;> first
      | exact Bool.noConfusion hk
      | (have hu := ‹P.underlying t = _›; simp [Sem.run_bind', run_underlying hu, Result.andThen, bind, pure, Sem.run, TI.isAgg, hkk])
theorem sizeOf_run {t : Nat} {ti : TI} {i : TypeInfo} {z : Value} (h : TFacts P t ti i z) : (sizeOf t).run P w = .ok ti.size w := by
  simp [sizeOf, typeInfo, h.info, h.size, Sem.run_bind', Result.andThen, bind, pure, Sem.run, program]

def evOf (t : TI) (cs : List Cell) : EV := match t.isAgg with
  | true => .agg cs
  | false => .c (cs.headD .any)

theorem loadAt_run (hT : TOk P T) {t : Nat} (h : (T t).kind ≠ .bad) {ad : Addr} {f : Nat → Value} (hc : ∀ j, j < (T t).size → w.cell? (ad.add j) = some (f j)) :
    (Instr.loadAt t (.pointer (some ad))).run P w = .ok (match (T t).isAgg with
      | true => .agg ((List.range (T t).size).map f).toArray
      | false => f 0) w := by
  obtain ⟨i, z, hf⟩ := ti_facts hT h
  have hl := run_loadCells (P := P) w ad (T t).size f hc
  have h0 := hc 0 hf.pos
  rw [show ad.add 0 = ad from by simp [Addr.add]] at h0
  simp only [Instr.loadAt, Instr.sureAddr, loadVar, bind, pure, Sem.run_bind', Sem.run, Result.andThen, isAgg_run hT h]
  cases (T t).isAgg with
  | true => simp [Sem.run_bind', sizeOf_run hf, hl, Result.andThen, Sem.run]
  | false => simp [load, Sem.run, h0]

theorem evOf_rep {t : TI} {cs : List Cell} {f : Nat → Value} (hl : cs.length = t.size) (hz : 0 < t.size) (hc : ∀ (j : Nat) (c : Cell), cs[j]? = some c → c.plain ∧ c.Rep w β ω [] (f j)) :
    (evOf t cs).Rep w β ω (match t.isAgg with
      | true => .agg ((List.range t.size).map f).toArray
      | false => f 0) := by
  unfold evOf
  cases t.isAgg with
  | true =>
    refine ⟨_, rfl, ⟨by simp [hl], fun j c hj => ⟨f j, ?_, (hc j c hj).2⟩⟩, fun c hm => ?_⟩
    · have : j < cs.length := (List.getElem?_eq_some_iff.1 hj).1
      simp [hl] at this
      simp [this]
    · obtain ⟨j, hj⟩ := List.getElem?_of_mem hm
      exact (hc j c hj).1
  | false =>
    cases cs with
    | nil => simp at hl; omega
    | cons c r => exact hc 0 c rfl

/-! ### Loads -/
def plainB : Cell → Bool
  | .nc (.uq _ _ _ _) => false
  | _ => true
def allPlain : List Cell → Bool
  | [] => true
  | c :: r => plainB c && allPlain r
def tabF (h : Nat → FC) : Nat → Nat → List Cell
  | _, 0 => []
  | j, n + 1 => .nc (.f (h j)) :: tabF h (j + 1) n
/-- The cells of an element, all of them read only; none: one is not. -/
def tabN (h : Nat → NC) : Nat → Nat → Option (List Cell)
  | _, 0 => some []
  | j, n + 1 => match h j with
    | .f x => match tabN h (j + 1) n with
      | some r => some (.nc (.f x) :: r)
      | none => none
    | .uq _ _ _ _ => none
def stLoad (σ : AS) (id : Nat) (g : Gd) (t : TI) (x : EV) (F : TV → Eds → Prop) : Prop :=
  match x with
  | .c (.ip m h) => match Nat.ble t.size m with
    | true => F (.e (evOf t (tabF h 0 t.size))) []
    | false => False
  | .c (.ptr l sz i j) => match lkB σ g l with
    | some (.var cs) => match Nat.beq i 0, Nat.ble (j + t.size) cs.length, allPlain ((cs.drop j).take t.size) with
      | true, true, true => F (.e (evOf t ((cs.drop j).take t.size))) []
      | _, _, _ => False
    | some (.arr sz' bw n c h hole) => match Nat.beq sz' sz, Nat.ble (j + t.size) sz with
      | true, true => match hole with
        | none => match tabN (h i) j t.size with
          | some cs => obG σ g (i < n) ∧ F (.e (evOf t cs)) []
          | none => match t.isAgg, g, h i j with
            | false, none, .uq sz2 bw2 n2 h2 => match σ.fresh id with
              | true => Ob (i < n) ∧ F (.e (.c (.own id sz2 0 n2))) [(id, some (.arr sz2 bw2 n2 none h2 none)), (l, some (.arr sz' bw n c h (some (i, j, .own id sz2 0 n2))))]
              | false => False
            | _, _, _ => False
        | some (i', j', c') => match t.isAgg, Nat.beq j j', plainB c' with
          | false, true, true => obG σ g (i = i' ∧ i < n) ∧ F (.e (.c c')) []
          | _, _, _ => False
      | _, _ => False
    | _ => False
  | _ => False

theorem plainB_iff {c : Cell} (h : plainB c = true) : c.plain := by
  unfold plainB at h
  split at h
  · cases h
  · rename_i hn
    cases c with
    | nc x =>
      cases x with
      | f x => trivial
      | uq sz bw n g => exact absurd rfl (hn sz bw n g)
    | _ => trivial
theorem allPlain_mem {cs : List Cell} (h : allPlain cs = true) {c : Cell} (hc : c ∈ cs) : c.plain := by
  induction cs with
  | nil => cases hc
  | cons x r ih =>
    simp only [allPlain, Bool.and_eq_true] at h
    cases hc with
    | head => exact plainB_iff h.1
    | tail _ hm => exact ih h.2 hm
theorem Cell.Rep.path {c : Cell} {v : Value} {p : List Nat} (hp : c.plain) (h : c.Rep w β ω p v) (q : List Nat) : c.Rep w β ω q v :=
  Cell.Rep.plainMove ⟨fun _ _ e => ⟨rfl, e⟩, fun _ _ h => h⟩ hp h
theorem tabF_length (h : Nat → FC) : ∀ n j, (tabF h j n).length = n
  | 0, _ => rfl
  | n + 1, j => by simp [tabF, tabF_length h n]
theorem tabF_get (h : Nat → FC) : ∀ n j k c, (tabF h j n)[k]? = some c → c = .nc (.f (h (j + k))) ∧ k < n
  | 0, _, k, c, e => by simp [tabF] at e
  | n + 1, j, 0, c, e => by simp [tabF] at e; exact ⟨e.symm, by omega⟩
  | n + 1, j, k + 1, c, e => by
    simp only [tabF, List.getElem?_cons_succ] at e
    have := tabF_get h n (j + 1) k c e
    exact ⟨by rw [this.1]; congr 3; omega, by omega⟩
theorem tabN_spec (h : Nat → NC) : ∀ n j cs, tabN h j n = some cs → cs.length = n ∧ ∀ k c, cs[k]? = some c → k < n ∧ ∃ x, c = .nc (.f x) ∧ h (j + k) = .f x
  | 0, _, cs, e => by simp [tabN] at e; subst e; exact ⟨rfl, fun k c e => by simp at e⟩
  | n + 1, j, cs, e => by
    simp only [tabN] at e
    split at e
    · rename_i x hx
      split at e
      · rename_i r hr
        injection e with e
        subst e
        obtain ⟨h1, h2⟩ := tabN_spec h n (j + 1) r hr
        refine ⟨by simp [h1], fun k c hk => ?_⟩
        cases k with
        | zero => simp at hk; subst hk; exact ⟨by omega, x, rfl, hx⟩
        | succ k =>
          simp only [List.getElem?_cons_succ] at hk
          obtain ⟨h3, y, h4, h5⟩ := h2 k c hk
          exact ⟨by omega, y, h4, by rw [← h5]; congr 1; omega⟩
      · cases e
    · cases e
end
end Go.Ice
end

section
set_option linter.unusedVariables false
set_option linter.unusedSimpArgs false
namespace Go.Ice
section
variable {P : Program} {T : Nat → TI} {σ : AS} {a : Act} {w : World} {β : Nat → Option Nat} {ω : Nat → Option (List Nat)}

theorem exec_load {o : Oper} {t : Nat} {x : Operand} (ho : o.op = .load t x) {v u : Value} (hx : a.eval x = v) (h : (Instr.loadAt t v).run P w = .ok u w) :
    (execOp a.eval o).run P w = .ok (.value u) w := by
  simp only [execOp, ho, hx]
  simp [Sem.run_bind', h, Result.andThen, bind, pure, Sem.run]

theorem getD_of_cell {w : World} {ad : Addr} {u : Value} (h : w.cell? ad = some u) : w.cell? ad = some ((w.cell? ad).getD undef) := by rw [h]; rfl

theorem lkB_none {l : Nat} {b : Blk} (h : lkB σ none l = some b) : lkH σ.hp l = some (none, b) := by
  unfold lkB at h
  split at h
  · rename_i e; injection h with h; subst h; exact e
  · cases h
  · cases h
theorem tagNo_putH {d : Nat} {hp : List (Nat × HE)} (h : tagNo d hp = true) (l : Nat) (e : HE) (he : match e.1 with
    | none => True
    | some (s, _) => s ≠ d) : tagNo d (putH hp l e) = true := by
  induction hp with
  | nil =>
    obtain ⟨g, b⟩ := e
    cases g with
    | none => rfl
    | some sp =>
      simp only [putH, tagNo, Bool.and_eq_true, and_true]
      cases hb : Nat.beq sp.1 d with
      | true => exact absurd (Nat.eq_of_beq_eq_true hb) he
      | false => rfl
  | cons kv r ih =>
    obtain ⟨k, g, b⟩ := kv
    obtain ⟨g', b'⟩ := e
    simp only [putH]
    cases hb : Nat.beq k l with
    | true =>
      simp only
      have hr : tagNo d r = true := by
        cases g with
        | none => exact h
        | some sp => simp only [tagNo, Bool.and_eq_true] at h; exact h.2
      cases g' with
      | none => exact hr
      | some sp =>
        simp only [tagNo, Bool.and_eq_true]
        refine ⟨?_, hr⟩
        cases hb' : Nat.beq sp.1 d with
        | true => exact absurd (Nat.eq_of_beq_eq_true hb') he
        | false => rfl
    | false =>
      simp only
      cases g with
      | none => exact ih h
      | some sp =>
        simp only [tagNo, Bool.and_eq_true] at h ⊢
        exact ⟨h.1, ih h.2⟩

theorem load_sound (hT : TOk P T) {o : Oper} {t : Nat} {x : Operand} (ho : o.op = .load t x) (hk : (T t).kind ≠ .bad) (hx : opOk x = true) {id : Nat} {g : Gd} {F : TV → Eds → Prop} (hd : dstOk σ g o.dst = true)
    (h : stLoad σ id g (T t) (opE σ g x) F) : OpSound P o σ id g F := by
  obtain ⟨ti, z, tf⟩ := ti_facts hT hk
  have hp := tf.pos
  generalize hX : opE σ g x = X at h
  unfold stLoad at h
  split at h
  · -- read only memory
    rename_i m hh
    split at h
    · rename_i hle
      have hle := Nat.le_of_ble_eq_true hle
      refine .pure hd fun a w β ω hs hg => ?_
      have hv := opE_rep hs hg hx
      rw [hX] at hv
      obtain ⟨_, hm, ad, hv, hsp, hω, hc⟩ := hv
      refine ⟨_, _, exec_load ho hv (loadAt_run hT hk (f := fun j => (w.cell? (ad.add j)).getD undef) fun j hj => ?_), h, ?_⟩
      · obtain ⟨u, hu, _⟩ := hc j (by omega)
        exact getD_of_cell hu
      · refine evOf_rep (tabF_length _ _ _) hp fun j c hj => ?_
        obtain ⟨e, hlt⟩ := tabF_get _ _ _ _ _ hj
        obtain ⟨u, hu, hr⟩ := hc j (by omega)
        subst e
        refine ⟨trivial, ?_⟩
        rw [hu, Nat.zero_add]
        exact hr
    · exact h.elim
  · rename_i l sz i j
    split at h
    · -- a variable
      rename_i cs hl
      split at h
      · rename_i h1 h2 h3
        have h1 := Nat.eq_of_beq_eq_true h1
        subst h1
        have h2 := Nat.le_of_ble_eq_true h2
        refine .pure hd fun a w β ω hs hg => ?_
        have hv := opE_rep hs hg hx
        rw [hX] at hv
        obtain ⟨_, b, hb, hv⟩ := hv
        obtain ⟨b', arr, hb', hω, hrow, hsz, hc⟩ := lkB_rep hs hg hl
        rw [hb] at hb'
        injection hb' with hb'
        subst hb'
        rw [Nat.zero_mul, Nat.zero_add] at hv
        refine ⟨_, _, exec_load ho hv (loadAt_run hT hk (f := fun k => (arr[j + k]?).getD undef) fun k hk' => ?_), h, ?_⟩
        · rw [Addr.add_plain]
          have hlt : j + k < arr.size := by omega
          rw [Array.getElem?_eq_getElem hlt]
          exact hrow.cell (Array.getElem?_eq_getElem hlt)
        · refine evOf_rep (by simp; omega) hp fun k c hj => ?_
          have hm := allPlain_mem h3 (List.mem_of_getElem? hj)
          refine ⟨hm, ?_⟩
          rw [List.getElem?_take] at hj
          split at hj
          · rw [List.getElem?_drop] at hj
            obtain ⟨u, hu, hr⟩ := hc _ _ hj
            rw [hu]
            exact hr.path hm _
          · cases hj
      · exact h.elim
    · -- a row
      rename_i sz' bw n c hh hole hl
      split at h
      · rename_i h1 h2
        have h1 := Nat.eq_of_beq_eq_true h1
        subst h1
        have h2 := Nat.le_of_ble_eq_true h2
        split at h
        · split at h
          · rename_i cs hcs
            obtain ⟨hlen, hcs⟩ := tabN_spec _ _ _ _ hcs
            obtain ⟨hob, h⟩ := h
            refine .pure hd fun a w β ω hs hg => ?_
            have hi := obG_out hs hg hob
            have hv := opE_rep hs hg hx
            rw [hX] at hv
            obtain ⟨_, b, hb, hv⟩ := hv
            obtain ⟨hz, hb1, hb2, hr⟩ := lkB_rep hs hg hl
            rcases hr with ⟨hn, _⟩ | ⟨b', arr, hb', hω, hrow, hsz, hcap, hc⟩
            · rw [hn] at hb; cases hb
            rw [hb] at hb'
            injection hb' with hb'
            subst hb'
            refine ⟨_, _, exec_load ho hv (loadAt_run hT hk (f := fun k => (arr[i * sz' + j + k]?).getD undef) fun k hk' => ?_), h, ?_⟩
            · rw [Addr.add_plain]
              obtain ⟨u, hu, _⟩ := hc i hi (j + k) (by omega)
              rw [← Nat.add_assoc] at hu
              rw [hu]
              exact hrow.cell hu
            · refine evOf_rep hlen hp fun k c hj => ?_
              obtain ⟨hlt, y, e1, e2⟩ := hcs k c hj
              subst e1
              refine ⟨trivial, ?_⟩
              obtain ⟨u, hu, hr⟩ := hc i hi (j + k) (by omega)
              rw [← Nat.add_assoc] at hu
              rw [hu]
              simp only [arrCell, e2] at hr
              exact Cell.Rep.path (c := .nc (.f y)) trivial hr _
          · split at h
            · rename_i hagg hu
              split at h
              · rename_i hf
                obtain ⟨hob, h⟩ := h
                intro a w β ω hs hg
                have hi := hob.out
                have hv := opE_rep hs hg hx
                rw [hX] at hv
                obtain ⟨_, b, hb, hv⟩ := hv
                have hl' : lkH σ.hp l = some (none, .arr sz' bw n c hh none) := lkB_none hl
                have hj : j < sz' := by omega
                obtain ⟨β', ω', hs', hext, hβ, b', arr, u, hb', hrow, hu0, hown⟩ := hs.unpack hl' hf hi hj hu
                rw [hb] at hb'
                injection hb' with hb'
                subst hb'
                have hrun : (execOp a.eval o).run P w = .ok (.value u) w := by
                  refine exec_load ho hv ?_
                  have h1 := loadAt_run (P := P) hT hk (w := w) (ad := ⟨b, i * sz' + j, none⟩) (f := fun k => (w.cell? ((⟨b, i * sz' + j, none⟩ : Addr).add k)).getD undef)
                  simp only [hagg] at h1
                  have hone : (T t).size = 1 := by
                    have := (tf.one hagg).1
                    have h2 := tf.zs
                    rw [this] at h2
                    simpa using h2.symm
                  have h0 : w.cell? ((⟨b, i * sz' + j, none⟩ : Addr).add 0) = some u := by rw [Addr.add_plain]; exact hrow.cell hu0
                  have := h1 (fun k hk' => by
                    have : k = 0 := by omega
                    subst this
                    exact getD_of_cell h0)
                  rw [h0] at this
                  exact this
                simp only [Oper.wp, hrun, Oper.upon]
                refine ⟨_, _, β', ω', h, ?_, hext, fun k hk' => hβ k (by omega)⟩
                cases hdd : o.dst with
                | none => exact hs'
                | some d =>
                  rw [hdd] at hd
                  obtain ⟨h1, h2⟩ := dstOk_some hd
                  have := hs'.putT (g := none) trivial h1 (tagNo_putH (tagNo_putH h2 id _ trivial) l _ trivial) (x := .e (.c (.own id _ 0 _))) ⟨trivial, hown⟩
                  exact this
              · exact h.elim
            · exact h.elim
        · rename_i i' j' c'
          split at h
          · rename_i hagg hj hpl
            have hj := Nat.eq_of_beq_eq_true hj
            subst hj
            have hpl := plainB_iff hpl
            obtain ⟨hob, h⟩ := h
            refine .pure hd fun a w β ω hs hg => ?_
            obtain ⟨hii, hi⟩ := obG_out hs hg hob
            subst hii
            have hv := opE_rep hs hg hx
            rw [hX] at hv
            obtain ⟨_, b, hb, hv⟩ := hv
            obtain ⟨hz, hb1, hb2, hr⟩ := lkB_rep hs hg hl
            rcases hr with ⟨hn, _⟩ | ⟨b', arr, hb', hω, hrow, hsz, hcap, hc⟩
            · rw [hn] at hb; cases hb
            rw [hb] at hb'
            injection hb' with hb'
            subst hb'
            have hone : (T t).size = 1 := by
              have := (tf.one hagg).1
              have h2 := tf.zs
              rw [this] at h2
              simpa using h2.symm
            obtain ⟨u, hu, hr⟩ := hc i hi j (by omega)
            simp only [arrCell, and_self, if_true] at hr
            have h0 : w.cell? ((⟨b, i * sz' + j, none⟩ : Addr).add 0) = some u := by rw [Addr.add_plain]; exact hrow.cell hu
            have h1 := loadAt_run (P := P) hT hk (w := w) (ad := ⟨b, i * sz' + j, none⟩) (f := fun k => (w.cell? ((⟨b, i * sz' + j, none⟩ : Addr).add k)).getD undef) (fun k hk' => by
              have : k = 0 := by omega
              subst this
              exact getD_of_cell h0)
            simp only [hagg, h0, Option.getD_some] at h1
            exact ⟨_, _, exec_load ho hv h1, h, ⟨hpl, hr.path hpl _⟩⟩
          · exact h.elim
      · exact h.elim
    · exact h.elim
  · exact h.elim
end
end Go.Ice
end

section
set_option linter.unusedVariables false
set_option linter.unusedSimpArgs false
namespace Go.Ice
section
variable {P : Program} {T : Nat → TI} {σ : AS} {a : Act} {w : World} {β : Nat → Option Nat} {ω : Nat → Option (List Nat)}

/-! ### alloc, box -/
theorem inK_zero (k : IntKind) : inK k 0 := by cases k <;> simp [inK, IntKind.min, IntKind.max, IntKind.signed, IntKind.bits]
theorem zcell_rep (p : List Nat) (v : Value) (hone : v.oneCell' = true) : ((zcOf v).cell).Rep w β ω p v := by
  unfold zcOf
  split
  · split
    · exact ⟨rfl, inK_zero _⟩
    · exact hone
  · rfl
  · rename_i s
    split
    · rename_i e
      refine ⟨?_, Nat.zero_le _⟩
      simp only [strV]
      congr 1
      have : s = ⟨s.data.toList.toArray⟩ := by simp
      rw [this, e]
    · exact hone
  · rfl
  · exact hone
theorem zcell_plain (z : ZC) : z.cell.plain := by cases z <;> trivial
theorem zcell_no (z : ZC) (l : Nat) : z.cell.no l = true := by cases z <;> rfl

theorem zeroValue_run {t : Nat} {ti : TI} {i : TypeInfo} {z : Value} (h : TFacts P t ti i z) : (zeroValue t).run P w = .ok z w := by
  simp [zeroValue, typeInfo, h.info, h.zero, Sem.run_bind', Result.andThen, bind, pure, Sem.run, program]

/-- A new variable. -/
theorem new_sound {o : Oper} {id : Nat} {g : Gd} {F : TV → Eds → Prop} (hd : dstOk σ g o.dst = true) {cs : List Cell} (hf : σ.fresh id = true) (hno : ∀ l, σ.fresh l = true → cellsNo l cs = true)
    (hrun : ∀ a w β ω, Sat σ a w β ω → gTrue a g → ∃ arr e, (execOp a.eval o).run P w = .ok (.value (.pointer (some ⟨w.heap.size, 0, none⟩))) (w.alloc (.cells arr e)) ∧
      arr.size = cs.length ∧ ∀ (j : Nat) (c : Cell), cs[j]? = some c → c.plain ∧ ∃ u, arr[j]? = some u ∧ c.Rep w β ω [] u)
    (h : F (.e (.c (.ptr id 0 0 0))) [(id, some (.var cs))]) : OpSound P o σ id g F := by
  intro a w β ω hs hg
  obtain ⟨arr, e, hr, hsz, hc⟩ := hrun a w β ω hs hg
  simp only [Oper.wp, hr, Oper.upon]
  have hs' := hs.alloc hf (.cells arr e) (newTag id g id) (blk := .var cs) (fun ω' hω' hn => by
    refine ⟨_, arr, upd_same _ _ _, hn, ⟨e, heap_alloc_new w _⟩, hsz, fun j c hj => ?_⟩
    obtain ⟨hp, u, hu, hr⟩ := hc j c hj
    have hcn : c.no id = true := cellsNo_mem (hno id hf) (List.mem_of_getElem? hj)
    exact ⟨u, hu, (hr.upd hcn).plainMove ⟨fun b hb e => ⟨heap_alloc_old w _ b hb, by rw [hω' b hb]; exact e⟩, fun b n hl => hl.same (heap_alloc_old w _ b hl.lt)⟩ hp⟩)
  refine ⟨_, _, upd β id (some w.heap.size), upd ω w.heap.size (some [id]), h, ?_, Ext.alloc _ id, fun l hl => upd_other _ _ (by omega)⟩
  have hptr : (TV.e (.c (.ptr id 0 0 0))).Rep (w.alloc (.cells arr e)) (upd β id (some w.heap.size)) (upd ω w.heap.size (some [id])) a (.pointer (some ⟨w.heap.size, 0, none⟩)) :=
    ⟨trivial, _, upd_same _ _ _, by simp⟩
  cases hdd : o.dst with
  | none => exact hs'
  | some d =>
    rw [hdd] at hd
    obtain ⟨h1, h2⟩ := dstOk_some hd
    have ht : tagNo d (putH σ.hp id (newTag id g id, .var cs)) = true := tagNo_putH h2 _ _ (dstOk_tag hd)
    exact hs'.putT hg h1 ht hptr

def okT (t : TI) : Bool := match t.kind with
  | .bad => false
  | _ => true
theorem okT_ne {t : TI} (h : okT t = true) : t.kind ≠ .bad := by
  intro e
  simp [okT, e] at h
def stAlloc0 (σ : AS) (id : Nat) (t : TI) (F : TV → Eds → Prop) : Prop :=
  match okT t, σ.fresh id with
  | true, true => F (.e (.c (.ptr id 0 0 0))) [(id, some (.var (t.zero.map ZC.cell)))]
  | _, _ => False
theorem zeros_no (l : Nat) (zs : List ZC) : cellsNo l (zs.map ZC.cell) = true := by
  induction zs with
  | nil => rfl
  | cons z r ih => simp [cellsNo, zcell_no, ih]
theorem alloc_sound0 (hT : TOk P T) {o : Oper} {t : Nat} (ho : o.op = .alloc t) {id : Nat} {g : Gd} {F : TV → Eds → Prop} (hd : dstOk σ g o.dst = true) (h : stAlloc0 σ id (T t) F) : OpSound P o σ id g F := by
  unfold stAlloc0 at h
  split at h
  · rename_i hk hf
    obtain ⟨i, z, tf⟩ := ti_facts hT (okT_ne hk)
    refine new_sound hd hf (fun l _ => zeros_no l _) (fun a w β ω hs hg => ⟨z.cells, t, ?_, ?_, fun j c hj => ?_⟩) h
    · simp only [execOp, ho]
      simp [Instr.alloc, Sem.run_bind', zeroValue_run tf, Result.andThen, bind, pure, Sem.run, newVar, newRow, newObj]
    · rw [tf.zs, List.length_map, ← tf.zc, List.length_map, Array.length_toList, tf.zs]
    · rw [← tf.zc, List.map_map, List.getElem?_map] at hj
      cases hz : z.cells.toList[j]? with
      | none => rw [hz] at hj; cases hj
      | some u =>
        rw [hz] at hj
        simp only [Option.map_some, Option.some.injEq, Function.comp] at hj
        subst hj
        exact ⟨zcell_plain _, u, by simpa using hz, zcell_rep _ _ (tf.zone u (List.mem_of_getElem? hz))⟩
  · exact h.elim

/-- One that may stand for a variable that is not there yet. -/
def stAlloc (σ : AS) (id : Nat) (g : Gd) (t : TI) (F : TV → Eds → Prop) : Prop := match lkH σ.hp id with
  | some (none, .pre cs) => match g, okT t, AS.fresh { σ with hp := delH σ.hp id } id with
    | none, true, true => Ob (cs = t.zero.map ZC.cell) ∧ F (.e (.c (.ptr id 0 0 0))) []
    | _, _, _ => False
  | _ => stAlloc0 σ id t F
/-- What is known of one heap is known of the other one. -/
def WkH (hp' hp : List (Nat × HE)) : Prop := ∀ l, lkH hp l = lkH hp' l ∨ ∃ cs, lkH hp l = some (none, .pre cs) ∧ lkH hp' l = some (none, .var cs)
theorem Sat.weak {hp' hp : List (Nat × HE)} (hs : Sat { σ with hp := hp' } a w β ω) (hw : WkH hp' hp) : Sat { σ with hp := hp } a w β ω := by
  refine ⟨hs.nt, hs.df, hs.tm, fun l g b hl hg => ?_, fun b l p e => ?_, hs.lt⟩
  · rcases hw l with h | ⟨cs, h1, h2⟩
    · exact hs.hp l g b (h.symm.trans hl) hg
    · have hl : lkH hp l = some (g, b) := hl
      rw [h1] at hl
      injection hl with hl
      injection hl with e1 e2
      subst e1 e2
      exact .inr (hs.hp l none _ h2 trivial)
  · obtain ⟨x, hx⟩ := hs.cl b l p e
    rcases hw l with h | ⟨cs, h1, _⟩
    · exact ⟨x, h.trans hx⟩
    · exact ⟨_, h1⟩
theorem WkH.ed {id : Nat} {g : Gd} : ∀ {es : Eds} {hp' hp : List (Nat × HE)}, WkH hp' hp → WkH (edH id g hp' es) (edH id g hp es)
  | [], _, _, h => h
  | (k, some b) :: r, hp', hp, h => by
    simp only [edH]
    refine WkH.ed fun l => ?_
    rw [lkH_putH, lkH_putH]
    by_cases e : l = k
    · rw [if_pos e, if_pos e]; exact .inl rfl
    · rw [if_neg e, if_neg e]; exact h l
  | (k, none) :: r, hp', hp, h => by
    simp only [edH]
    refine WkH.ed fun l => ?_
    rw [lkH_delH, lkH_delH]
    by_cases e : l = k
    · rw [if_pos e, if_pos e]; exact .inl rfl
    · rw [if_neg e, if_neg e]; exact h l
theorem Oper.wp_then {o : Oper} {a : Act} {w : World} {K K' : Act → World → Prop} (h : ∀ a w, K a w → K' a w) (hh : o.wp P a w K (fun _ _ _ => False)) : o.wp P a w K' (fun _ _ _ => False) := by
  unfold Oper.wp at *
  generalize (execOp a.eval o).run P w = r at *
  cases r with
  | ok n w' =>
    cases n <;> simp only [Oper.upon] at hh ⊢ <;>
      first
        | exact h _ _ hh
        | exact Calls.mono hh (fun e w'' he => by
            cases e with
            | returned v => exact h _ _ he
            | panicked c => exact he.elim
            | outgrown => obtain ⟨a, w, h⟩ := he; exact h.elim)
        | exact Rows.mono hh (fun _ _ he => h _ _ he)
        | exact hh
  | halt x w' => cases x <;> simp only [Oper.upon] at hh ⊢ <;> exact hh.elim
theorem tagNo_del {d : Nat} {hp : List (Nat × HE)} (h : tagNo d hp = true) (l : Nat) : tagNo d (delH hp l) = true := by
  induction hp with
  | nil => rfl
  | cons kv r ih =>
    obtain ⟨k, g, b⟩ := kv
    simp only [delH]
    cases g with
    | none =>
      cases Nat.beq k l with
      | true => exact ih h
      | false => exact ih h
    | some sp =>
      simp only [tagNo, Bool.and_eq_true] at h
      cases Nat.beq k l with
      | true => exact ih h.2
      | false => simp only [tagNo, Bool.and_eq_true]; exact ⟨h.1, ih h.2⟩
theorem alloc_sound (hT : TOk P T) {o : Oper} {t : Nat} (ho : o.op = .alloc t) {id : Nat} {g : Gd} {F : TV → Eds → Prop} (hd : dstOk σ g o.dst = true) (h : stAlloc σ id g (T t) F) : OpSound P o σ id g F := by
  unfold stAlloc at h
  split at h
  · rename_i cs hl
    split at h
    · rename_i hk hf
      obtain ⟨he, hF⟩ := h
      have he := he.out
      have hd' : dstOk { σ with hp := delH σ.hp id } none o.dst = true := by
        cases hdd : o.dst with
        | none => rfl
        | some d =>
          rw [hdd] at hd
          simp only [dstOk, Bool.and_eq_true] at hd ⊢
          exact ⟨⟨hd.1.1, tagNo_del hd.1.2 _⟩, hd.2⟩
      have key := alloc_sound0 (σ := { σ with hp := delH σ.hp id }) hT ho (F := fun v es => v = .e (.c (.ptr id 0 0 0)) ∧ es = [(id, some (.var cs))]) hd' (by
        unfold stAlloc0
        rw [hk, hf, ← he]
        exact ⟨rfl, rfl⟩)
      intro a w β ω hs hg
      obtain ⟨hs', hx⟩ := hs.drop (hp := delH σ.hp id) (fun l e hle => by
        rw [lkH_delH] at hle
        by_cases e : l = id
        · rw [if_pos e] at hle; cases hle
        · rw [if_neg e] at hle; exact hle)
      refine Oper.wp_then (fun a' w' hk => ?_) (key a w β _ hs' trivial)
      obtain ⟨v, es, β', ω', ⟨rfl, rfl⟩, k1, k2, k3⟩ := hk
      refine ⟨_, [], β', ω', hF, ?_, hx.trans k2, k3⟩
      refine Sat.weak (σ := σ.app id none o.dst (.e (.c (.ptr id 0 0 0))) []) (hp := σ.hp) (hp' := edH id none (delH σ.hp id) [(id, some (.var cs))]) k1 fun l => ?_
      simp only [edH, newTag]
      rw [lkH_putH]
      by_cases e : l = id
      · subst e
        rw [if_pos rfl]
        exact .inr ⟨cs, hl, rfl⟩
      · rw [if_neg e, lkH_delH, if_neg e]
        exact .inl rfl
    · exact h.elim
  · exact alloc_sound0 hT ho hd h

theorem filt_noT {l : Nat} {v : TV} (s : List Nat) (h : v.no l = true) : (filt s v).no l = true := filt_no s h
theorem val_no {l : Nat} (hf : σ.fresh l = true) (x : Operand) : (σ.val x).no l = true := by
  cases x with
  | tmp t => exact lkT_no (Sat.fresh_tm hf) t
  | const v =>
    simp only [AS.val, TV.no]
    unfold ofConst
    split <;> rfl
  | global g => rfl
  | func f => rfl
theorem opT_no {l : Nat} (hf : σ.fresh l = true) (g : Gd) (x : Operand) : (opT σ g x).no l = true := by
  have h := val_no hf x
  unfold opT
  split
  · rename_i s p y e
    rw [e] at h
    cases g with
    | none => exact h
    | some sp =>
      simp only
      split <;> exact h
  · exact h
theorem opE_no {l : Nat} (hf : σ.fresh l = true) (g : Gd) (x : Operand) : (opE σ g x).no l = true := by
  have h := opT_no hf g x
  unfold opE
  split
  · rename_i y e; rw [e] at h; exact h
  · rfl
theorem cellsOf_no {l : Nat} {x : EV} (h : x.no l = true) : cellsNo l (cellsOf x) = true := by
  cases x with
  | c x => simp only [cellsOf, cellsNo, Bool.and_true]; exact h
  | agg cs => exact h
  | u => rfl
def knownE : EV → Bool
  | .u => false
  | _ => true
theorem FC.Rep.one {x : FC} {v : Value} {fr : Nat → Prop} (h : x.Rep w fr v) : v.oneCell' = true := by
  cases x with
  | any => exact h
  | int k n => rw [h.1]; rfl
  | bool b => rw [show v = .bool b from h]; rfl
  | str s => rw [h.1]; rfl
  | sl sz bw n g => obtain ⟨a, c, rfl, _⟩ := h; rfl
theorem Cell.Rep.one {c : Cell} {v : Value} {p : List Nat} (h : c.Rep w β ω p v) : v.oneCell' = true := by
  cases c with
  | nc y =>
    cases y with
    | f y => exact FC.Rep.one h
    | uq sz bw n g => obtain ⟨_, _, _, h⟩ := h; rcases h with ⟨_, rfl⟩ | ⟨b, c, arr, rfl, _⟩ <;> rfl
  | nil => rw [show v = .slice none 0 0 from h]; rfl
  | own l sz off n => rcases h with ⟨_, _, _, h⟩ | ⟨b, c, _, h, _⟩ <;> rw [h] <;> rfl
  | ptr l sz i j => obtain ⟨b, _, h⟩ := h; rw [h]; rfl
  | ip m g => obtain ⟨_, ad, h, _⟩ := h; rw [h]; rfl
  | fn f caps => obtain ⟨bs, _, h⟩ := h; rw [h]; rfl
  | mp l => obtain ⟨b, _, h⟩ := h; rw [h]; rfl
theorem cells_one {v : Value} (h : v.oneCell' = true) : v.cells = #[v] := by cases v <;> first | rfl | cases h
theorem cells_of_rep {x : EV} {v : Value} (hk : knownE x = true) (h : x.Rep w β ω v) : v.cells.size = (cellsOf x).length ∧ ∀ (j : Nat) (c : Cell), (cellsOf x)[j]? = some c → c.plain ∧ ∃ u, v.cells[j]? = some u ∧ c.Rep w β ω [] u := by
  cases x with
  | agg cs =>
    obtain ⟨arr, rfl, ⟨hs, hc⟩, hp⟩ := h
    refine ⟨hs, fun j c hj => ⟨hp c (List.mem_of_getElem? hj), hc j c hj⟩⟩
  | c x =>
    have one : v.cells = #[v] := cells_one (Cell.Rep.one h.2)
    rw [one]
    refine ⟨rfl, fun j c hj => ?_⟩
    cases j with
    | zero =>
      simp only [cellsOf, List.getElem?_cons_zero, Option.some.injEq] at hj
      subst hj
      exact ⟨h.1, v, rfl, h.2⟩
    | succ j => simp [cellsOf] at hj
  | u => cases hk
def stBox (σ : AS) (id : Nat) (x : EV) (F : TV → Eds → Prop) : Prop :=
  match knownE x, σ.fresh id with
  | true, true => F (.e (.c (.ptr id 0 0 0))) [(id, some (.var (cellsOf x)))]
  | _, _ => False
theorem box_sound {o : Oper} {t : Nat} {x : Operand} (ho : o.op = .box t x) (hx : opOk x = true) {id : Nat} {g : Gd} {F : TV → Eds → Prop} (hd : dstOk σ g o.dst = true) (h : stBox σ id (opE σ g x) F) : OpSound P o σ id g F := by
  unfold stBox at h
  split at h
  · rename_i hk hf
    refine new_sound hd hf (fun l hl => cellsOf_no (opE_no hl g x)) (fun a w β ω hs hg => ⟨(a.eval x).cells, t, ?_, ?_⟩) h
    · simp only [execOp, ho]
      simp [Instr.box, Sem.run_bind', Result.andThen, bind, pure, Sem.run, newVar, newRow, newObj]
    · exact cells_of_rep hk (opE_rep hs hg hx)
  · exact h.elim
end
end Go.Ice
end

section
set_option linter.unusedVariables false
set_option linter.unusedSimpArgs false
namespace Go.Ice
section
variable {P : Program} {T : Nat → TI} {σ : AS} {a : Act} {w : World} {β : Nat → Option Nat} {ω : Nat → Option (List Nat)}

/-! ### Addresses -/
def fieldAt (t : TI) (f : Nat) : Option Nat := match t.kind with
  | .strct fs => match fs[f]? with
    | some (off, _) => some off
    | none => none
  | _ => none
def stField (t : TI) (f : Nat) (x : EV) (F : TV → Eds → Prop) : Prop :=
  match fieldAt t f with
  | some off => match x with
    | .c (.ptr l sz i j) => F (.e (.c (.ptr l sz i (j + off)))) []
    | .c (.ip m h) => match Nat.blt off m with
      | true => F (.e (.c (.ip (m - off) (fun j => h (off + j))))) []
      | false => False
    | _ => False
  | none => False
theorem under_struct (hT : TOk P T) {t : Nat} {fs : List (Nat × Nat)} (h : (T t).kind = .strct fs) : ∃ l, P.underlying t = some (.struct l) ∧ fieldsOf P l.toList = fs ∧ ∀ x ∈ fs, 0 < x.2 := by
  have := kind_under hT h (by rintro ⟨⟩)
  simp only [tkOk] at this
  split at this
  · rename_i l hl
    simp only [Bool.and_eq_true, decide_eq_true_eq, List.all_eq_true] at this
    exact ⟨l, hl, this.1, this.2⟩
  · cases this
theorem fieldAddr_run (hT : TOk P T) {t f off : Nat} (h : fieldAt (T t) f = some off) {ad : Addr} (hs : ad.spot = none) : (Instr.fieldAt t (.pointer (some ad)) f).run P w = .ok (.pointer (some (ad.add off))) w := by
  unfold fieldAt at h
  split at h
  · rename_i fs hk
    obtain ⟨l, hu, hf, hpos⟩ := under_struct hT hk
    split at h
    · rename_i off' sz hff
      injection h with h
      subst h
      have hm : (off', sz) ∈ fs := List.mem_of_getElem? hff
      have hp := hpos _ hm
      rw [← hf] at hff
      simp only [fieldsOf, List.getElem?_map] at hff
      cases hfl : l.toList[f]? with
      | none => rw [hfl] at hff; cases hff
      | some fd =>
        rw [hfl] at hff
        simp only [Option.map_some, Option.some.injEq, Prod.mk.injEq] at hff
        obtain ⟨h1, h2⟩ := hff
        have hfl' : l[f]? = some fd := by simpa using hfl
        have hc : 0 < P.cellsOf fd.type := by rw [h2]; exact hp
        have hi : ∃ i, P.info? fd.type = some i ∧ i.size = P.cellsOf fd.type := by
          unfold Program.cellsOf at hc ⊢
          cases hh : P.info? fd.type with
          | none => rw [hh] at hc; simp at hc
          | some i => exact ⟨i, rfl, by simp⟩
        obtain ⟨i, hi, his⟩ := hi
        have hne : ¬ i.size = 0 := by omega
        simp [Instr.fieldAt, Sem.run_bind', run_underlying hu, Result.andThen, bind, pure, Sem.run, hfl', Instr.sureAddr, fieldPlace, sizeOf, typeInfo, hi, program, hne, h1]
    · cases h
  · cases h
theorem field_sound (hT : TOk P T) {o : Oper} {t f : Nat} {x : Operand} (ho : o.op = .fieldAddr t x f) (hx : opOk x = true) {id : Nat} {g : Gd} {F : TV → Eds → Prop} (hd : dstOk σ g o.dst = true)
    (h : stField (T t) f (opE σ g x) F) : OpSound P o σ id g F := by
  unfold stField at h
  split at h
  · rename_i off hoff
    refine .pure hd fun a w β ω hs hg => ?_
    have hv := opE_rep hs hg hx
    generalize opE σ g x = X at *
    have key : ∀ ad : Addr, ad.spot = none → a.eval x = .pointer (some ad) → (execOp a.eval o).run P w = .ok (.value (.pointer (some (ad.add off)))) w := fun ad hsp e => by
      simp only [execOp, ho, e]
      simp [Sem.run_bind', fieldAddr_run hT hoff hsp, Result.andThen, bind, pure, Sem.run]
    split at h
    · rename_i l sz i j
      obtain ⟨_, b, hb, hv⟩ := hv
      refine ⟨_, _, key _ rfl hv, h, trivial, b, hb, ?_⟩
      rw [Addr.add_plain, Nat.add_assoc]
    · rename_i m hh
      split at h
      · rename_i hlt
        have hlt : off < m := by simpa using hlt
        obtain ⟨_, hm, ad, hv, hsp, hω, hc⟩ := hv
        refine ⟨_, _, key _ hsp hv, h, trivial, by omega, _, rfl, Addr.add_spot hsp _, by rw [Addr.add_block]; exact hω, fun j hj => ?_⟩
        obtain ⟨u, hu, hr⟩ := hc (off + j) (by omega)
        exact ⟨u, by rw [Addr.add_add _ hsp]; exact hu, hr⟩
      · exact h.elim
    · exact h.elim
  · exact h.elim

def stIndexAddr (σ : AS) (g : Gd) (T : Nat → TI) (t : TI) (x ix : EV) (F : TV → Eds → Prop) : Prop :=
  match t.kind, ix with
  | .slice e, .c (.nc (.f (.int _ i))) => match okT (T e), x with
    | true, .c (.nc (.f (.sl sz bw n h))) => match Nat.beq sz (T e).size with
      | true => obG σ g (0 ≤ i ∧ i < n) ∧ F (.e (.c (.ip sz (h i.toNat)))) []
      | false => False
    | true, .c (.own l sz off n) => match Nat.beq sz (T e).size with
      | true => obG σ g (0 ≤ i ∧ i < n) ∧ F (.e (.c (.ptr l sz (off + i.toNat) 0))) []
      | false => False
    | _, _ => False
  | .arr m e, .c (.nc (.f (.int _ i))) => match okT (T e), x with
    | true, .c (.ptr l sz i' j) => obG σ g (0 ≤ i ∧ i < m) ∧ F (.e (.c (.ptr l sz i' (j + i.toNat * (T e).size)))) []
    | true, .c (.ip k h) => obG σ g (0 ≤ i ∧ i < m ∧ i.toNat * (T e).size + (T e).size ≤ k) ∧ F (.e (.c (.ip (T e).size (fun j => h (i.toNat * (T e).size + j))))) []
    | _, _ => False
  | _, _ => False
theorem under_slice (hT : TOk P T) {t e : Nat} (h : (T t).kind = .slice e) : P.underlying t = some (.slice e) := by
  have := kind_under hT h (by rintro ⟨⟩)
  simp only [tkOk] at this
  split at this
  · rename_i e' he
    simp only [decide_eq_true_eq] at this
    subst this
    exact he
  · cases this
theorem under_arr (hT : TOk P T) {t n e : Nat} (h : (T t).kind = .arr n e) : P.underlying t = some (.array n e) := by
  have := kind_under hT h (by rintro ⟨⟩)
  simp only [tkOk] at this
  split at this
  · rename_i n' e' he
    simp only [Bool.and_eq_true, decide_eq_true_eq] at this
    obtain ⟨h1, h2⟩ := this
    subst h1 h2
    exact he
  · cases this
theorem under_str (hT : TOk P T) {t : Nat} (h : (T t).kind = .str) : P.underlying t = some .string := by
  have := kind_under hT h (by rintro ⟨⟩)
  simp only [tkOk] at this
  split at this
  · assumption
  · cases this
theorem indexAt_slice_run (hT : TOk P T) {t e : Nat} (h : (T t).kind = .slice e) (he : okT (T e) = true) {ad : Addr} {n c : Nat} {k : IntKind} {i : Int} (h0 : 0 ≤ i) (h1 : i < n) :
    (Instr.indexAt t (.slice (some ad) n c) (.int k i)).run P w = .ok (.pointer (some (ad.add (i.toNat * (T e).size)))) w := by
  obtain ⟨ti, z, tf⟩ := ti_facts hT (okT_ne he)
  have hc : (0 ≤ i ∧ i < (n : Int)) := ⟨h0, h1⟩
  simp only [Instr.indexAt, asIntOf, Sem.run_bind', run_underlying (under_slice hT h), Result.andThen, bind, pure, Sem.run]
  simp [Sem.run_bind', Result.andThen, Sem.run, hc, sizeOf_run tf, Sem.bind]
theorem indexAt_arr_run (hT : TOk P T) {t m e : Nat} (h : (T t).kind = .arr m e) (he : okT (T e) = true) {ad : Addr} {k : IntKind} {i : Int} (h0 : 0 ≤ i) (h1 : i < m) :
    (Instr.indexAt t (.pointer (some ad)) (.int k i)).run P w = .ok (.pointer (some (ad.add (i.toNat * (T e).size)))) w := by
  obtain ⟨ti, z, tf⟩ := ti_facts hT (okT_ne he)
  have hc : (0 ≤ i ∧ i < (m : Int)) := ⟨h0, h1⟩
  simp only [Instr.indexAt, asIntOf, Sem.run_bind', run_underlying (under_arr hT h), Result.andThen, bind, pure, Sem.run, Instr.sureAddr]
  simp [Sem.run_bind', Result.andThen, Sem.run, hc, sizeOf_run tf, Sem.bind, Instr.sureAddr]
theorem indexAddr_sound (hT : TOk P T) {o : Oper} {t : Nat} {x ix : Operand} (ho : o.op = .indexAddr t x ix) (hx : opOk x = true) (hix : opOk ix = true) {id : Nat} {g : Gd} {F : TV → Eds → Prop} (hd : dstOk σ g o.dst = true)
    (h : stIndexAddr σ g T (T t) (opE σ g x) (opE σ g ix) F) : OpSound P o σ id g F := by
  refine .pure hd fun a w β ω hs hg => ?_
  have hv := opE_rep hs hg hx
  have hi := opE_rep hs hg hix
  generalize opE σ g x = X at *
  generalize opE σ g ix = IX at *
  have key : ∀ v, (Instr.indexAt t (a.eval x) (a.eval ix)).run P w = .ok v w → (execOp a.eval o).run P w = .ok (.value v) w := fun v e => by
    simp only [execOp, ho]
    simp [Sem.run_bind', e, Result.andThen, bind, pure, Sem.run]
  unfold stIndexAddr at h
  split at h
  · rename_i e k i hk
    obtain ⟨ei, _⟩ := int_rep hi
    split at h
    · rename_i sz bw n hh hok
      split at h
      · rename_i hsz
        have hsz := Nat.eq_of_beq_eq_true hsz
        subst hsz
        obtain ⟨hob, h⟩ := h
        obtain ⟨h0, h1⟩ := obG_out hs hg hob
        obtain ⟨_, ad0, c, hv, hc, hb, hn, hz, hx'⟩ := hv
        obtain ⟨ad, rfl, hsp, hfr, hcell⟩ := hx' (by omega)
        rw [hv, ei] at key
        refine ⟨_, _, key _ (indexAt_slice_run hT hk hok h0 h1), h, trivial, hz, _, rfl, Addr.add_spot hsp _, by rw [Addr.add_block]; exact hfr, fun j hj => ?_⟩
        obtain ⟨u, hu, hr⟩ := hcell i.toNat (by omega) j hj
        exact ⟨u, by rw [Addr.add_add _ hsp]; exact hu, hr⟩
      · exact h.elim
    · rename_i l sz off n hok
      split at h
      · rename_i hsz
        have hsz := Nat.eq_of_beq_eq_true hsz
        subst hsz
        obtain ⟨hob, h⟩ := h
        obtain ⟨h0, h1⟩ := obG_out hs hg hob
        rcases hv.2 with ⟨_, _, hn, _⟩ | ⟨b, c, hb, hv, _⟩
        · omega
        rw [hv, ei] at key
        refine ⟨_, _, key _ (indexAt_slice_run hT hk hok h0 h1), h, trivial, b, hb, ?_⟩
        rw [Addr.add_plain, Addr.add_plain, Nat.zero_add, Nat.add_mul, Nat.add_zero]
      · exact h.elim
    · exact h.elim
  · rename_i m e k i hk
    obtain ⟨ei, _⟩ := int_rep hi
    split at h
    · rename_i l sz i' j hok
      obtain ⟨hob, h⟩ := h
      obtain ⟨h0, h1⟩ := obG_out hs hg hob
      obtain ⟨_, b, hb, hv⟩ := hv
      rw [hv, ei] at key
      refine ⟨_, _, key _ (indexAt_arr_run hT hk hok h0 h1), h, trivial, b, hb, ?_⟩
      rw [Addr.add_plain, Nat.add_assoc]
    · rename_i kk hh hok
      obtain ⟨hob, h⟩ := h
      obtain ⟨h0, h1, h2⟩ := obG_out hs hg hob
      obtain ⟨_, hm, ad, hv, hsp, hω, hc⟩ := hv
      obtain ⟨ti, z, tf⟩ := ti_facts hT (okT_ne hok)
      rw [hv, ei] at key
      refine ⟨_, _, key _ (indexAt_arr_run hT hk hok h0 h1), h, trivial, tf.pos, _, rfl, Addr.add_spot hsp _, by rw [Addr.add_block]; exact hω, fun j hj => ?_⟩
      obtain ⟨u, hu, hr⟩ := hc (i.toNat * (T e).size + j) (by omega)
      exact ⟨u, by rw [Addr.add_add _ hsp]; exact hu, hr⟩
    · exact h.elim
  · exact h.elim

/-! ### len, extract, index, not, negation, nil checks, conversions of numbers, closures -/
/-- A length is told with a bound on it. -/
def stLen (t : TI) (x : EV) (F : TV → Eds → Prop) : Prop :=
  match t.kind, x with
  | .slice _, .c .nil => F (.e (.int .i64 0)) []
  | .slice _, .c (.own _ _ _ n) => F (.e (.int .i64 n)) []
  | .slice _, .c (.nc (.f (.sl _ _ n _))) => F (.e (.int .i64 n)) []
  | .str, .c (.nc (.f (.str s))) => F (.e (.int .i64 s.length)) []
  | _, _ => False
theorem inK_nat {n : Nat} (h : n ≤ 9223372036854775807) : inK .i64 (n : Int) := by
  simp only [inK, IntKind.min, IntKind.max, IntKind.signed, IntKind.bits]
  simp
  omega
theorem strV_size (s : List UInt8) : (⟨s.toArray⟩ : ByteArray).size = s.length := by simp [ByteArray.size]
theorem len_sound (hT : TOk P T) {o : Oper} {t : Nat} {x : Operand} (ho : o.op = .call { callee := .builtin .len, args := #[x], argTypes := #[t] }) (hx : opOk x = true) {id : Nat} {g : Gd} {F : TV → Eds → Prop} (hd : dstOk σ g o.dst = true)
    (h : stLen (T t) (opE σ g x) F) : OpSound P o σ id g F := by
  refine .pure hd fun a w β ω hs hg => ?_
  have hv := opE_rep hs hg hx
  generalize opE σ g x = X at *
  have key : ∀ v, (Builtin.len_ #[t] o.type #[a.eval x]).run P w = .ok v w → (execOp a.eval o).run P w = .ok (.value v) w := fun v e => by
    simp only [execOp, ho, resolve, invoke, builtin]
    simp [Sem.run_bind', e, Result.andThen, bind, pure, Sem.run, Sem.bind]
  unfold stLen at h
  split at h
  · rename_i e hk
    have hv : a.eval x = .slice none 0 0 := hv.2
    rw [hv] at key
    exact ⟨_, _, key _ (by simp [Builtin.len_, Sem.run_bind', run_underlying (under_slice hT hk), Result.andThen, bind, pure, Sem.run, goInt]), h, int_mk (inK_zero _)⟩
  · rename_i e l sz off n hk
    rcases hv.2 with ⟨_, _, hn, hv⟩ | ⟨b, c, hb, hv, hc, hm, _⟩
    · rw [hv] at key
      subst hn
      exact ⟨_, _, key _ (by simp [Builtin.len_, Sem.run_bind', run_underlying (under_slice hT hk), Result.andThen, bind, pure, Sem.run, goInt]), h, int_mk (inK_zero _)⟩
    · rw [hv] at key
      have : n ≤ 9223372036854775807 := by simp only [maxLen] at hm; omega
      exact ⟨_, _, key _ (by simp [Builtin.len_, Sem.run_bind', run_underlying (under_slice hT hk), Result.andThen, bind, pure, Sem.run, goInt]), h, int_mk (inK_nat this)⟩
  · rename_i e sz bw n hh hk
    obtain ⟨_, ad, c, hv, hc, hb, hn, _⟩ := hv
    rw [hv] at key
    have e2 : big47 = 140737488355328 := rfl
    exact ⟨_, _, key _ (by simp [Builtin.len_, Sem.run_bind', run_underlying (under_slice hT hk), Result.andThen, bind, pure, Sem.run, goInt]), h, int_mk (inK_nat (by omega))⟩
  · rename_i s hk
    obtain ⟨hv, hl⟩ := str_rep hv
    rw [hv] at key
    have e2 : big47 = 140737488355328 := rfl
    refine ⟨_, _, key _ (by simp [strV, Builtin.len_, Sem.run_bind', run_underlying (under_str hT hk), Result.andThen, bind, pure, Sem.run, goInt, strV_size]), h, int_mk (inK_nat (by omega))⟩
  · exact h.elim
end
end Go.Ice
end

section
set_option linter.unusedVariables false
set_option linter.unusedSimpArgs false
namespace Go.Ice
section
variable {P : Program} {T : Nat → TI} {σ : AS} {a : Act} {w : World} {β : Nat → Option Nat} {ω : Nat → Option (List Nat)}

def stExtract (x : TV) (k : Nat) (F : TV → Eds → Prop) : Prop :=
  match x with
  | .tup l => match l[k]? with
    | some y => F (.e y) []
    | none => False
  | _ => False
theorem extract_sound {o : Oper} {x : Operand} {k : Nat} (ho : o.op = .extract x k) (hx : opOk x = true) {id : Nat} {g : Gd} {F : TV → Eds → Prop} (hd : dstOk σ g o.dst = true) (h : stExtract (opT σ g x) k F) : OpSound P o σ id g F := by
  unfold stExtract at h
  split at h
  · rename_i l e
    split at h
    · rename_i y hy
      refine .pure hd fun a w β ω hs hg => ?_
      have hv := opT_rep hs hg hx
      rw [e] at hv
      obtain ⟨vs, hv, hsz, hc⟩ := hv
      obtain ⟨u, hu, hr⟩ := hc k y hy
      refine ⟨u, _, ?_, h, hr⟩
      simp only [execOp, ho, hv]
      simp [Instr.extract, hu, Sem.run_bind', Result.andThen, bind, pure, Sem.run]
    · exact h.elim
  · exact h.elim

def stIndex (σ : AS) (g : Gd) (t : TI) (x ix : EV) (F : TV → Eds → Prop) : Prop :=
  match t.kind, x, ix with
  | .str, .c (.nc (.f (.str s))), .c (.nc (.f (.int _ i))) => obG σ g (0 ≤ i ∧ i < s.length) ∧ F (.e (.int .u8 (s.getD i.toNat 0).toNat)) []
  | _, _, _ => False
theorem inK_u8 (b : UInt8) : inK .u8 (b.toNat : Int) := by
  have := b.toNat_lt
  simp only [inK, IntKind.min, IntKind.max, IntKind.signed, IntKind.bits]
  simp
  omega
theorem strV_get (s : List UInt8) (i : Nat) (h : i < s.length) : (⟨s.toArray⟩ : ByteArray)[i]? = some (s.getD i 0) := by
  have hsz : i < (⟨s.toArray⟩ : ByteArray).size := by rw [strV_size]; exact h
  rw [getElem?_pos (⟨s.toArray⟩ : ByteArray) i hsz]
  congr 1
  simp only [List.getD, List.getElem?_eq_getElem h, Option.getD_some]
  rfl
theorem index_sound (hT : TOk P T) {o : Oper} {t : Nat} {x ix : Operand} (ho : o.op = .index t x ix) (hx : opOk x = true) (hix : opOk ix = true) {id : Nat} {g : Gd} {F : TV → Eds → Prop} (hd : dstOk σ g o.dst = true)
    (h : stIndex σ g (T t) (opE σ g x) (opE σ g ix) F) : OpSound P o σ id g F := by
  refine .pure hd fun a w β ω hs hg => ?_
  have hv := opE_rep hs hg hx
  have hi := opE_rep hs hg hix
  generalize opE σ g x = X at *
  generalize opE σ g ix = IX at *
  unfold stIndex at h
  split at h
  · rename_i s k i hk
    obtain ⟨ei, _⟩ := int_rep hi
    obtain ⟨es, _⟩ := str_rep hv
    obtain ⟨hob, h⟩ := h
    obtain ⟨h0, h1⟩ := obG_out hs hg hob
    refine ⟨_, _, ?_, h, int_mk (inK_u8 _)⟩
    have hg := strV_get s i.toNat (by omega)
    simp only [execOp, ho, es, ei, strV, Instr.index, asIntOf]
    simp only [Sem.run_bind', run_underlying (under_str hT hk), Result.andThen, bind, pure, Sem.run, Sem.bind]
    rw [if_pos h0, hg]
    rfl
  · exact h.elim

def stNot (x : EV) (F : TV → Eds → Prop) : Prop :=
  match x with
  | .c (.nc (.f (.bool b))) => F (.e (.bool (!b))) []
  | _ => False
theorem not_sound {o : Oper} {t : Nat} {x : Operand} (ho : o.op = .unOp .not t x) (hx : opOk x = true) {id : Nat} {g : Gd} {F : TV → Eds → Prop} (hd : dstOk σ g o.dst = true) (h : stNot (opE σ g x) F) : OpSound P o σ id g F := by
  unfold stNot at h
  split at h
  · rename_i b e
    refine .pure hd fun a w β ω hs hg => ?_
    have hv := opE_rep hs hg hx
    rw [e] at hv
    have hv := bool_rep hv
    exact ⟨_, _, by simp [execOp, ho, hv, Op.unary, Sem.run_bind', Result.andThen, bind, pure, Sem.run], h, bool_mk⟩
  · exact h.elim
def stNeg (σ : AS) (g : Gd) (x : EV) (F : TV → Eds → Prop) : Prop :=
  match x with
  | .c (.nc (.f (.int k n))) => obG σ g (inK k (0 - n)) ∧ F (.e (.int k (0 - n))) []
  | _ => False
theorem neg_sound {o : Oper} {t : Nat} {x : Operand} (ho : o.op = .unOp .neg t x) (hx : opOk x = true) {id : Nat} {g : Gd} {F : TV → Eds → Prop} (hd : dstOk σ g o.dst = true) (h : stNeg σ g (opE σ g x) F) : OpSound P o σ id g F := by
  unfold stNeg at h
  split at h
  · rename_i k n e
    refine .pure hd fun a w β ω hs hg => ?_
    obtain ⟨hob, h⟩ := h
    have hi := obG_out hs hg hob
    have hv := opE_rep hs hg hx
    rw [e] at hv
    obtain ⟨hv, _⟩ := int_rep hv
    exact ⟨_, _, by simp only [execOp, ho, hv, Op.unary, Op.intArith, wrap_in hi]; rfl, h, int_mk hi⟩
  · exact h.elim

/-- Number to number. -/
def stConvInt (k : IntKind) (x : EV) (F : TV → Eds → Prop) : Prop :=
  match x with
  | .c (.nc (.f (.int _ n))) => F (.e (.int k (k.wrap n))) [] ∨ (inK k n ∧ F (.e (.int k n)) [])
  | _ => False
theorem convInt_sound {o : Oper} {s t : Nat} {k : IntKind} {x : Operand} (ho : o.op = .convert s t x) (hk : P.underlying t = some (.int k)) (hs' : ∃ d, P.underlying s = some d) (hx : opOk x = true) {id : Nat} {g : Gd} {F : TV → Eds → Prop}
    (hd : dstOk σ g o.dst = true) (h : stConvInt k (opE σ g x) F) : OpSound P o σ id g F := by
  obtain ⟨d, hsd⟩ := hs'
  unfold stConvInt at h
  split at h
  · rename_i k' n e
    refine .pure hd fun a w β ω hs hg => ?_
    have hv := opE_rep hs hg hx
    rw [e] at hv
    obtain ⟨hv, _⟩ := int_rep hv
    have run : (execOp a.eval o).run P w = .ok (.value (.int k (k.wrap n))) w := by
      simp only [execOp, ho, hv, convert]
      simp only [Sem.run_bind', run_underlying hk, run_underlying hsd, Result.andThen, bind, pure, Sem.run, Sem.bind]
      cases d <;> rfl
    rcases h with h | ⟨hin, h⟩
    · exact ⟨_, _, run, h, int_mk (inK_wrap _ _)⟩
    · exact ⟨_, _, by rw [wrap_in hin] at run; exact run, h, int_mk hin⟩
  · exact h.elim

/-- A nil check of a pointer of ours, or of a function. -/
def stNil (x : EV) (F : TV → Eds → Prop) : Prop :=
  match x with
  | .c (.ptr l sz i j) => F (.e x) []
  | .c (.ip m h) => F (.e x) []
  | .c (.fn f caps) => F (.e x) []
  | _ => False
theorem nil_sound {o : Oper} {x : Operand} (ho : o.op = .nilCheck x) (hx : opOk x = true) {id : Nat} {g : Gd} {F : TV → Eds → Prop} (hd : dstOk σ g o.dst = true) (h : stNil (opE σ g x) F) : OpSound P o σ id g F := by
  refine .pure hd fun a w β ω hs hg => ?_
  have hv := opE_rep hs hg hx
  generalize opE σ g x = X at *
  unfold stNil at h
  split at h
  · obtain ⟨hp, b, hb, e⟩ := hv
    refine ⟨a.eval x, _, by simp [execOp, ho, e, pure, Sem.run], h, hp, b, hb, e⟩
  · obtain ⟨hp, hm, ad, e, rest⟩ := hv
    refine ⟨a.eval x, _, by simp [execOp, ho, e, pure, Sem.run], h, hp, hm, ad, e, rest⟩
  · obtain ⟨hp, bs, h1, e⟩ := hv
    refine ⟨a.eval x, _, by simp [execOp, ho, e, pure, Sem.run], h, hp, bs, h1, e⟩
  · exact h.elim

/-- A closure over variables of ours. -/
def capsOf (σ : AS) (g : Gd) : List Operand → Option (List Nat)
  | [] => some []
  | x :: r => match opE σ g x with
    | .c (.ptr l sz i j) => match Nat.beq (i * sz + j) 0 with
      | true => match capsOf σ g r with
        | some ls => some (l :: ls)
        | none => none
      | false => none
    | _ => none
def stMakeFunc (σ : AS) (g : Gd) (fn : Fn) (first caps : Array Operand) (F : TV → Eds → Prop) : Prop :=
  match fn, first.toList, capsOf σ g caps.toList with
  | .func f, [], some ls => F (.e (.c (.fn f ls))) []
  | _, _, _ => False
theorem capsOf_spec (hs : Sat σ a w β ω) {g : Gd} (hg : gTrue a g) : ∀ {xs : List Operand} {ls : List Nat}, xs.all opOk = true → capsOf σ g xs = some ls →
    ∃ bs : List Nat, ls.map β = bs.map some ∧ xs.map a.eval = bs.map fun b => .pointer (some ⟨b, 0, none⟩)
  | [], ls, _, h => by
    simp only [capsOf, Option.some.injEq] at h
    subst h
    exact ⟨[], rfl, rfl⟩
  | x :: r, ls, ho, h => by
    simp only [List.all_cons, Bool.and_eq_true] at ho
    have hv := opE_rep hs hg ho.1
    simp only [capsOf] at h
    split at h
    · rename_i l sz i j e
      rw [e] at hv
      obtain ⟨_, b, hb, hv⟩ := hv
      split at h
      · rename_i hz
        have hz := Nat.eq_of_beq_eq_true hz
        split at h
        · rename_i ls' hls
          injection h with h
          subst h
          obtain ⟨bs, h1, h2⟩ := capsOf_spec hs hg ho.2 hls
          refine ⟨b :: bs, by simp [hb, h1], ?_⟩
          simp only [List.map_cons, h2, hv, hz]
        · cases h
      · cases h
    · cases h
theorem makeFunc_sound {o : Oper} {fn : Fn} {first caps : Array Operand} (ho : o.op = .makeFunc fn first caps) (hc : caps.toList.all opOk = true) {id : Nat} {g : Gd} {F : TV → Eds → Prop} (hd : dstOk σ g o.dst = true)
    (h : stMakeFunc σ g fn first caps F) : OpSound P o σ id g F := by
  unfold stMakeFunc at h
  split at h
  · rename_i f ls hfirst hcaps
    refine .pure hd fun a w β ω hs hg => ?_
    obtain ⟨bs, h1, h2⟩ := capsOf_spec hs hg hc hcaps
    have e1 : first = #[] := by
      cases first
      simp at hfirst
      subst hfirst
      rfl
    have e2 : caps.map a.eval = (bs.map fun b => (Value.pointer (some ⟨b, 0, none⟩))).toArray := by
      apply Array.ext'
      simpa using h2
    refine ⟨_, _, ?_, h, trivial, bs, h1, rfl⟩
    simp only [execOp, ho, e1, e2]
    simp [Instr.makeFunc, Sem.run_bind', Result.andThen, bind, pure, Sem.run]
  · exact h.elim
end
end Go.Ice
end

section
set_option linter.unusedVariables false
set_option linter.unusedSimpArgs false
namespace Go.Ice
section
variable {P : Program} {T : Nat → TI} {σ : AS} {a : Act} {w : World} {β : Nat → Option Nat} {ω : Nat → Option (List Nat)}

/-! ### Writing -/
theorem setRow_other {w : World} {g : Nat} {cs : Array Value} {b : Nat} (h : b ≠ g) : (w.setRow g cs).heap[b]? = w.heap[b]? := by
  simp only [World.setRow, Array.getElem?_modify]
  rw [if_neg (fun e => h e.symm)]
theorem setRow_size {w : World} {g : Nat} {cs : Array Value} : (w.setRow g cs).heap.size = w.heap.size := by simp [World.setRow]
theorem Row.set {w : World} {g : Nat} {arr cs : Array Value} (h : Row w g arr) : Row (w.setRow g cs) g cs := by
  obtain ⟨e, h⟩ := h
  exact ⟨e, setRow_heap w g arr cs e _ h⟩
theorem Len.set {w : World} {g : Nat} {arr cs : Array Value} (h : Row w g arr) (hs : cs.size = arr.size) {b n : Nat} (hl : Len w b n) : Len (w.setRow g cs) b n := by
  by_cases e : b = g
  · subst e
    obtain ⟨t, h⟩ := h
    obtain ⟨x, t', fr, hx, hn⟩ := hl
    rw [h] at hx
    injection hx with hx
    injection hx with h1 h2 h3
    subst h1
    exact ⟨cs, t, _, setRow_heap w b arr cs t _ h, by rw [hs, hn]⟩
  · exact hl.same (setRow_other e)
/-- A row of ours is written anew. -/
theorem Sat.write (h : Sat σ a w β ω) {l b : Nat} {arr cs : Array Value} {old blk : Blk} (hl : lkH σ.hp l = some (none, old)) (hb : β l = some b) (hω : ω b = some [l]) (hrow : Row w b arr) (hs : cs.size = arr.size)
    (hnew : Mv w ω (w.setRow b cs) ω → (∀ x, x ≠ b → (w.setRow b cs).heap[x]? = w.heap[x]?) → Row (w.setRow b cs) b cs → blk.Rep (w.setRow b cs) β ω l) :
    Sat { σ with hp := putH σ.hp l (none, blk) } a (w.setRow b cs) β ω ∧ Ext w ω (w.setRow b cs) ω := by
  have hmv : Mv w ω (w.setRow b cs) ω := ⟨fun x hx e => ⟨setRow_other (fun e' => by subst e'; rw [hω] at e; cases e), e⟩, fun x n hl => hl.set hrow hs⟩
  refine ⟨⟨h.nt, h.df, fun j => (h.tm j).move hmv, fun k g x hk hg => ?_, fun x k p e => ?_, fun x p e => by rw [setRow_size]; exact h.lt x p e⟩,
    ⟨rfl, rfl, rfl, by rw [setRow_size]; exact Nat.le_refl _, fun x hx e => ⟨setRow_other (fun e' => by subst e'; rw [hω] at e; rcases e with e | e <;> cases e), rfl⟩, fun x n hl => hl.set hrow hs, fun _ e => e⟩⟩
  · rw [lkH_putH] at hk
    by_cases e : k = l
    · subst e
      rw [if_pos rfl] at hk
      injection hk with hk
      injection hk with h1 h2
      subst h2
      exact hnew hmv (fun x hx => setRow_other hx) hrow.set
    · rw [if_neg e] at hk
      refine (h.hp k g x hk hg).move hmv rfl (fun x hx q hq => ⟨setRow_other (fun e' => ?_), hq⟩)
      subst e'
      rw [hω] at hq
      injection hq with hq
      injection hq with hq _
      exact e hq.symm
  · rw [lkH_putH]
    by_cases e' : k = l
    · exact ⟨_, if_pos e'⟩
    · rw [if_neg e']; exact h.cl x k p e

theorem storeAt_run (hT : TOk P T) {t : Nat} (hk : okT (T t) = true) {b k : Nat} {arr : Array Value} {v : Value} (hrow : Row w b arr) (hv : v.cells.size = (T t).size) (hfit : k + (T t).size ≤ arr.size)
    (h1 : ∀ x ∈ v.cells.toList, x.oneCell' = true) :
    (Instr.storeAt t (.pointer (some ⟨b, k, none⟩)) v).run P w = .ok () (w.setRow b (arr.toList.take k ++ v.cells.toList ++ arr.toList.drop (k + (T t).size)).toArray) := by
  obtain ⟨i, z, tf⟩ := ti_facts hT (okT_ne hk)
  obtain ⟨e, hrow⟩ := hrow
  have hst := run_storeCells_at P b k e v.cells.toList 0 arr w hrow (by simp [hv]; omega) h1
  simp only [Nat.add_zero, Array.length_toList, hv] at hst
  simp only [Instr.storeAt, Instr.sureAddr, storeVar, bind, pure, Sem.run_bind', Sem.run, Result.andThen, sizeOf_run tf]
  simp only [Sem.bind, hv, ne_eq, not_true, if_false, hst, Sem.run_bind', sizeOf_run tf, Result.andThen]

def spliceL (cs : List Cell) (j : Nat) (new : List Cell) : List Cell := cs.take j ++ new ++ cs.drop (j + new.length)
/-- Element i with other cells from j on. -/
def updA (g : Nat → Nat → NC) (i j : Nat) (new : List NC) : Nat → Nat → NC := fun i' j' => match Nat.beq i' i with
  | true => match Nat.ble j j', new[j' - j]? with
    | true, some x => x
    | _, _ => g i' j'
  | false => g i' j'
def toNCs : List Cell → Option (List NC)
  | [] => some []
  | .nc x :: r => match toNCs r with
    | some l => some (x :: l)
    | none => none
  | .nil :: r => match toNCs r with
    | some l => some (.uq 1 1 0 (fun _ _ => .f .any) :: l)
    | none => none
  | _ => none
def isNone {α : Type} : Option α → Bool
  | none => true
  | some _ => false
def stStore (σ : AS) (t : TI) (d : Option Nat) (x v : EV) (F : TV → Eds → Prop) : Prop :=
  match okT t, isNone d, Nat.beq (cellsOf v).length t.size, knownE v, x with
  | true, true, true, true, .c (.ptr l sz i j) => match lkB σ none l with
    | some (.var cs) => match Nat.beq i 0, Nat.ble (j + t.size) cs.length with
      | true, true => F (.e .any) [(l, some (.var (spliceL cs j (cellsOf v))))]
      | _, _ => False
    | some (.arr sz' bw n c h hole) => match Nat.beq sz' sz, Nat.ble (j + t.size) sz with
      | true, true => match hole with
        | none => match toNCs (cellsOf v) with
          | some ncs => Ob (i < n) ∧ F (.e .any) [(l, some (.arr sz' bw n c (updA h i j ncs) none))]
          | none => False
        | some (i', j', c') => match t.isAgg, Nat.beq j j', cellsOf v with
          | false, true, [y] => Ob (i = i' ∧ i < n) ∧ F (.e .any) [(l, some (.arr sz' bw n c h (some (i', j', y))))]
          | _, _, _ => False
      | _, _ => False
    | _ => False
  | _, _, _, _, _ => False
end
end Go.Ice
end
