/- The texts of this claim, part 0: a small logic of plain values for the model's runs, what it says of the functions, in plain values. -/
import Derived.WalkKit
import Derived.Below
import Derived.Orders
import Derived.Laws.BitsLemmas
import Derived.Laws.StructEq
/- Plain values for Go's values. -/
namespace Go.Pv
open Go.RowKit

/-- A plain value. 'far': a slice that is only read; 'row', 'view', 'elt', 'ref': a slice, a part of it, a pointer into it, a pointer into a variable, of memory that the call owns (by its key). 'ifc': an interface value that is not nil, of a type. -/
inductive PV where
  | junk
  | bool (b : Bool)
  | int (k : IntKind) (n : Int)
  | str (s : ByteArray)
  | raw (v : Value)
  | nilp
  | nils
  | agg (xs : List PV)
  | tup (xs : List PV)
  | fn (f : Fn) (xs : List PV)
  | far (xs : List PV)
  | fel (xs : List PV)
  | row (g n : Nat)
  | view (g n lo hi : Nat)
  | elt (g n i off : Nat)
  | ref (b off : Nat)
  | ifc (t : TypeId)
  deriving Inhabited

end Go.Pv

/- The packages' variables that the rows lay. -/
namespace Go.Pv
/-- What the variable math/bits.deBruijn64tab holds. -/
def glob3 : List PV := [.int .u8 0, .int .u8 1, .int .u8 56, .int .u8 2, .int .u8 57, .int .u8 49, .int .u8 28, .int .u8 3, .int .u8 61, .int .u8 58, .int .u8 42, .int .u8 50, .int .u8 38, .int .u8 29, .int .u8 17, .int .u8 4, .int .u8 62, .int .u8 47, .int .u8 59, .int .u8 36, .int .u8 45, .int .u8 43, .int .u8 51, .int .u8 22, .int .u8 53, .int .u8 39, .int .u8 33, .int .u8 30, .int .u8 24, .int .u8 18, .int .u8 12, .int .u8 5, .int .u8 63, .int .u8 55, .int .u8 48, .int .u8 27, .int .u8 60, .int .u8 41, .int .u8 37, .int .u8 16, .int .u8 46, .int .u8 35, .int .u8 44, .int .u8 21, .int .u8 52, .int .u8 32, .int .u8 23, .int .u8 11, .int .u8 54, .int .u8 26, .int .u8 40, .int .u8 15, .int .u8 34, .int .u8 20, .int .u8 31, .int .u8 10, .int .u8 25, .int .u8 14, .int .u8 19, .int .u8 9, .int .u8 13, .int .u8 8, .int .u8 7, .int .u8 6]
/-- What the variable internal/strconv.uint64pow10 holds. -/
def glob0 : List PV := [.int .u64 1, .int .u64 10, .int .u64 100, .int .u64 1000, .int .u64 10000, .int .u64 100000, .int .u64 1000000, .int .u64 10000000, .int .u64 100000000, .int .u64 1000000000, .int .u64 10000000000, .int .u64 100000000000, .int .u64 1000000000000, .int .u64 10000000000000, .int .u64 100000000000000, .int .u64 1000000000000000, .int .u64 10000000000000000, .int .u64 100000000000000000, .int .u64 1000000000000000000, .int .u64 10000000000000000000]
/-- What the variable strconv.ErrSyntax holds: an interface value that is not nil. -/
def glob4 : List PV := [.ifc 207]
/-- What the variable strconv.ErrRange holds: an interface value that is not nil. -/
def glob5 : List PV := [.ifc 207]
/-- The variables that are read, by number, with their cells. -/
def GS : List (Nat × List PV) := [(5, glob5), (4, glob4), (3, glob3), (0, glob0)]
end Go.Pv

/- Plain values for Go's values, and what it means that a state of the machine bears them. -/
namespace Go.Pv
open Go.RowKit

def flat : PV → List PV
  | .agg xs => xs
  | x => [x]

/-- The size of a row's elements, and their type (0: not told). -/
structure Sz where
  sz : Nat
  q : TypeId
instance : Coe Sz Nat := ⟨Sz.sz⟩

/-- What lies behind a key. -/
inductive HC where
  | box (q : TypeId) (cs : List PV)
  | row (sz : Sz) (xs : List PV)
  | dead

abbrev Hp := List (Nat × HC)
abbrev Tm := List (Nat × PV)

def hget : Hp → Nat → Option HC
  | [], _ => none
  | (k, c) :: r, j => if j = k then some c else hget r j

def tget : Tm → Nat → PV
  | [], _ => .junk
  | (k, c) :: r, j => if j = k then c else tget r j

def live (hp : Hp) (k : Nat) : Prop := match hget hp k with
  | some (.box _ _) | some (.row _ _) => True
  | _ => False

structure St where
  n : Nat
  tm : Tm
  hp : Hp

/-- The block in which a pointer or a slice lies. -/
def ob : Value → Option Nat
  | .pointer (some a) => some a.block
  | .slice (some a) _ _ => some a.block
  | _ => none

abbrev Bl := Nat → Prop

/-- A value without keys. -/
inductive DR (w : World) (A : Bl) : PV → Value → Prop
  | junk (v : Value) : DR w A .junk v
  | bool (b : Bool) : DR w A (.bool b) (.bool b)
  | int (k : IntKind) (n : Int) : DR w A (.int k n) (.int k n)
  | str (s : ByteArray) : DR w A (.str s) (.string s)
  | raw (v : Value) : DR w A (.raw v) v
  | nilp : DR w A .nilp (.pointer none)
  | nils : DR w A .nils (.slice none 0 0)
  | agg (xs : List PV) (cs : Array Value) (hl : cs.size = xs.length) (h : ∀ (i : Nat) (x : PV), xs[i]? = some x → DR w A x (cs.getD i undef)) : DR w A (.agg xs) (.agg cs)
  | tup (xs : List PV) (cs : Array Value) (hl : cs.size = xs.length) (h : ∀ (i : Nat) (x : PV), xs[i]? = some x → DR w A x (cs.getD i undef)) : DR w A (.tup xs) (.tuple cs)
  | fn (f : Fn) (xs : List PV) (cs : Array Value) (hl : cs.size = xs.length) (h : ∀ (i : Nat) (x : PV), xs[i]? = some x → DR w A x (cs.getD i undef)) : DR w A (.fn f xs) (.func f #[] cs)
  | ifc (t : TypeId) (v : Value) : DR w A (.ifc t) (.iface t v)
  | far0 (a : Option Addr) (cap : Nat) : DR w A (.far []) (.slice a 0 cap)
  | far (xs : List PV) (β o cap sz : Nat) (c : Array Value) (e : TypeId) (fr : Nat × Nat) (hA : ¬ A β) (hw : w.heap[β]? = some (.cells c e fr)) (hc : xs.length ≤ cap)
      (hz : ∀ (i : Nat) (x : PV), xs[i]? = some x → (flat x).length = sz) (hb : ∀ (i : Nat) (x : PV) (j : Nat) (y : PV), xs[i]? = some x → (flat x)[j]? = some y → o + i * sz + j < c.size)
      (h : ∀ (i : Nat) (x : PV) (j : Nat) (y : PV), xs[i]? = some x → (flat x)[j]? = some y → DR w A y (c.getD (o + i * sz + j) undef)) : DR w A (.far xs) (.slice (some ⟨β, o, none⟩) xs.length cap)
  | fel (xs : List PV) (β o : Nat) (c : Array Value) (e : TypeId) (fr : Nat × Nat) (hA : ¬ A β) (hw : w.heap[β]? = some (.cells c e fr))
      (hb : ∀ (j : Nat) (y : PV), xs[j]? = some y → o + j < c.size) (h : ∀ (j : Nat) (y : PV), xs[j]? = some y → DR w A y (c.getD (o + j) undef)) : DR w A (.fel xs) (.pointer (some ⟨β, o, none⟩))

inductive VR (w : World) (A : Bl) (Γ : Nat → Value) (hp : Hp) : PV → Value → Prop
  | data {x : PV} {v : Value} (h : DR w A x v) : VR w A Γ hp x v
  | agg (xs : List PV) (cs : Array Value) (hl : cs.size = xs.length) (h : ∀ (i : Nat) (x : PV), xs[i]? = some x → VR w A Γ hp x (cs.getD i undef)) : VR w A Γ hp (.agg xs) (.agg cs)
  | tup (xs : List PV) (cs : Array Value) (hl : cs.size = xs.length) (h : ∀ (i : Nat) (x : PV), xs[i]? = some x → VR w A Γ hp x (cs.getD i undef)) : VR w A Γ hp (.tup xs) (.tuple cs)
  | fn (f : Fn) (xs : List PV) (cs : Array Value) (hl : cs.size = xs.length) (h : ∀ (i : Nat) (x : PV), xs[i]? = some x → VR w A Γ hp x (cs.getD i undef)) : VR w A Γ hp (.fn f xs) (.func f #[] cs)
  | row (g n : Nat) (v : Value) (ho : v.oneCell' = true) (hg : hget hp g ≠ none) (h : ∀ sz xs, hget hp g = some (.row sz xs) → n ≤ xs.length ∧ (n = xs.length → v = Γ g)) : VR w A Γ hp (.row g n) v
  | view (g n lo hi : Nat) (v : Value) (ho : v.oneCell' = true) (hg : hget hp g ≠ none)
      (h : ∀ sz xs, hget hp g = some (.row sz xs) → n ≤ xs.length ∧ (n = xs.length → lo ≤ hi ∧ hi ≤ n ∧ ∃ a cap, Γ g = .slice a n cap ∧ v = .slice (if cap = lo then a else a.map (·.add (lo * sz))) (hi - lo) (cap - lo))) : VR w A Γ hp (.view g n lo hi) v
  | elt (g n i off : Nat) (v : Value) (ho : v.oneCell' = true) (hg : hget hp g ≠ none)
      (h : ∀ sz xs, hget hp g = some (.row sz xs) → n ≤ xs.length ∧ (n = xs.length → i < n ∧ ∃ β o cap, Γ g = .slice (some ⟨β, o, none⟩) n cap ∧ v = .pointer (some ⟨β, o + i * sz + off, none⟩))) : VR w A Γ hp (.elt g n i off) v
  | ref (b off : Nat) (v : Value) (ho : v.oneCell' = true) (hg : hget hp b ≠ none)
      (h : ∀ q cs, hget hp b = some (.box q cs) → ∃ β, Γ b = .pointer (some ⟨β, 0, none⟩) ∧ v = .pointer (some ⟨β, off, none⟩)) : VR w A Γ hp (.ref b off) v

def Clean (fr : Nat × Nat) (lo hi : Nat) : Prop := ∀ i, lo ≤ i → i < hi → ¬ (fr.1 ≤ i ∧ i < fr.2)

/-- What lies behind one key, in memory. -/
def HR (w : World) (A : Bl) (Γ : Nat → Value) (hp : Hp) (k : Nat) : Prop := match hget hp k with
  | some (.box q cs) => ∃ β c fr, Γ k = .pointer (some ⟨β, 0, none⟩) ∧ w.heap[β]? = some (.cells c q fr) ∧ c.size = cs.length ∧ Clean fr 0 c.size ∧ (∀ (j : Nat) (y : PV), cs[j]? = some y → VR w A Γ hp y (c.getD j undef))
  | some (.row sz xs) => 0 < sz.sz ∧ ((xs = [] ∧ Γ k = .slice none 0 0) ∨ ∃ β o cap c e fr, Γ k = .slice (some ⟨β, o, none⟩) xs.length cap ∧ w.heap[β]? = some (.cells c e fr) ∧ ((sz.q = 0 ∨ e = sz.q ∧ o = 0) ∧ (sz.sz = 1 ∨ ¬ (fr.1 ≤ c.size ∧ c.size < fr.2))) ∧ xs.length ≤ cap ∧ o + cap * sz ≤ c.size ∧
      Clean fr o (o + cap * sz) ∧ (∀ (i : Nat) (x : PV), xs[i]? = some x → (flat x).length = sz) ∧ (∀ (i : Nat) (x : PV) (j : Nat) (y : PV), xs[i]? = some x → (flat x)[j]? = some y → DR w A y (c.getD (o + i * sz + j) undef)))
  | _ => True

/-- The blocks of the keys. -/
def Ow (Γ : Nat → Value) (hp : Hp) : Bl := fun b => ∃ k, live hp k ∧ ob (Γ k) = some b
def Av (V : Bl) (Γ : Nat → Value) (hp : Hp) : Bl := fun b => V b ∨ Ow Γ hp b

/-- No two keys in one block. -/
def Dis (Γ : Nat → Value) (hp : Hp) : Prop := ∀ k k' b, live hp k → live hp k' → ob (Γ k) = some b → ob (Γ k') = some b → k = k'

/-- From w0 to w: only the blocks of M may have turned, of those that were there. -/
structure Kp (M : Bl) (w0 w : World) : Prop where
  os : w.os = w0.os
  tape : w.tape = w0.tape
  output : w.output = w0.output
  size : w0.heap.size ≤ w.heap.size
  block : ∀ b, b < w0.heap.size → ¬ M b → w.heap[b]? = w0.heap[b]?

/-- A change of the keys' memory: what is said of a key may turn as the stamps allow. -/
def Grow (Γ Γ' : Nat → Value) (hp hp' : Hp) : Prop := ∀ g, hget hp g ≠ none → hget hp' g ≠ none ∧
  (∀ sz xs', hget hp' g = some (.row sz xs') → ∃ xs, hget hp g = some (.row sz xs) ∧ xs.length ≤ xs'.length ∧ (xs'.length = xs.length → Γ' g = Γ g)) ∧
  (∀ q cs', hget hp' g = some (.box q cs') → Γ' g = Γ g ∧ ∃ cs, hget hp g = some (.box q cs))

/-- The variables of the packages that hold what is told of them, and that no call writes. -/
def gget : List (Nat × List PV) → Nat → Option (List PV)
  | [], _ => none
  | (k, c) :: r, j => if j = k then some c else gget r j
def Glo (w : World) (V M : Bl) : Prop := ∀ g cs, gget GS g = some cs → ¬ V g ∧ ¬ M g ∧ ∃ c e fr, w.heap[g]? = some (.cells c e fr) ∧ c.size = cs.length ∧ ∀ (j : Nat) (y : PV), cs[j]? = some y → j < c.size ∧ ∀ w' A, DR w' A y (c.getD j undef)
def Vok (w : World) (V M : Bl) : Prop := (∀ b, V b → b < w.heap.size ∧ ¬ M b) ∧ Glo w V M

structure RelG (w0 : World) (V M : Bl) (Γ0 : Nat → Value) (h0 : Hp) (Γ : Nat → Value) (s : St) (a : Act) (w : World) : Prop where
  kp : Kp M w0 w
  defers : a.defers = []
  size : a.tmps.size = s.n
  vlt : Vok w0 V M
  tm : ∀ t, VR w (Av V Γ s.hp) Γ s.hp (tget s.tm t) (a.tmps.getD t undef)
  hp : ∀ k, HR w (Av V Γ s.hp) Γ s.hp k
  dis : Dis Γ s.hp
  own : ∀ b, Ow Γ s.hp b → w0.heap.size ≤ b ∨ M b
  gr : Grow Γ0 Γ h0 s.hp
  low : ∀ k, hget h0 k ≠ none → k < 64

def Rel (w0 : World) (V M : Bl) (Γ0 : Nat → Value) (h0 : Hp) (s : St) (a : Act) (w : World) : Prop := ∃ Γ, RelG w0 V M Γ0 h0 Γ s a w

/-- A call of f goes into f's own text. -/
def Ent (P : Program) (f : FuncId) : Prop := ∀ (args : Array Value) (w : World), (callFunc f args).run P w = .ok (.enter f args) w

/-- A row that was handed over comes back as long as it was. -/
def Stay (ha hr : Hp) (k : Nat) : Prop := ∀ sz xs sz' ys, hget ha k = some (.row sz xs) → hget hr k = some (.row sz' ys) → ys.length = xs.length

/-- What a call of f does, in plain values: 'args', over 'ha' (memory that is handed over), to 'res', over 'hr'. -/
structure Fn (P : Program) (f : FuncId) (args : List PV) (ha : Hp) (res : PV) (hr : Hp) : Prop where
  ent : Ent P f
  run : ∀ (w : World) (V : Bl) (Γ : Nat → Value) (vs : Array Value), Vok w V (Ow Γ ha) → vs.size = args.length →
    (∀ (i : Nat) (x : PV), args[i]? = some x → VR w (Av V Γ ha) Γ ha x (vs.getD i undef)) → (∀ k, HR w (Av V Γ ha) Γ ha k) → Dis Γ ha →
    Calls P f vs w (fun e w' => ∃ v Γ', e = .returned v ∧ Kp (Ow Γ ha) w w' ∧ VR w' (Av V Γ' hr) Γ' hr res v ∧ (∀ k, HR w' (Av V Γ' hr) Γ' hr k) ∧ Dis Γ' hr ∧
      (∀ b, Ow Γ' hr b → w.heap.size ≤ b ∨ Ow Γ ha b) ∧ (∀ k, live ha k → live hr k → Stay ha hr k → Γ' k = Γ k))

/-! ### Laws of these words -/

theorem Grow.trans {Γ Γ' Γ'' : Nat → Value} {hp hp' hp'' : Hp} (h : Grow Γ Γ' hp hp') (k : Grow Γ' Γ'' hp' hp'') : Grow Γ Γ'' hp hp'' := fun g hg => by
  obtain ⟨h1, h2, h3⟩ := h g hg
  obtain ⟨k1, k2, k3⟩ := k g h1
  refine ⟨k1, fun sz xs'' e => ?_, fun q cs'' e => ?_⟩
  · obtain ⟨xs', e1, e2, e3⟩ := k2 sz xs'' e
    obtain ⟨xs, e4, e5, e6⟩ := h2 sz xs' e1
    exact ⟨xs, e4, by omega, fun hl => (e3 (by omega)).trans (e6 (by omega))⟩
  · obtain ⟨e1, cs', e2⟩ := k3 q cs'' e
    obtain ⟨e3, e4⟩ := h3 q cs' e2
    exact ⟨e1.trans e3, e4⟩

theorem Kp.refl (M : Bl) (w : World) : Kp M w w := ⟨rfl, rfl, rfl, Nat.le_refl _, fun _ _ _ => rfl⟩
theorem Kp.trans {M N L : Bl} {a b c : World} (h : Kp M a b) (k : Kp N b c) (hm : ∀ x, M x → L x) (hn : ∀ x, N x → a.heap.size ≤ x ∨ L x) : Kp L a c :=
  ⟨k.os.trans h.os, k.tape.trans h.tape, k.output.trans h.output, Nat.le_trans h.size k.size, fun x hx hl => by
    rw [k.block x (Nat.lt_of_lt_of_le hx h.size) (fun hN => (hn x hN).elim (fun h => by omega) hl), h.block x hx (fun hM => hl (hm x hM))]⟩

theorem block_lt {w : World} {b : Nat} {o : Obj} (h : w.heap[b]? = some o) : b < w.heap.size := (Array.getElem?_eq_some_iff.1 h).1

theorem RelG.glo {w0 w : World} {V M : Bl} {Γ0 Γ : Nat → Value} {h0 : Hp} {s : St} {a : Act} (R : RelG w0 V M Γ0 h0 Γ s a w) {g : Nat} {cs : List PV} (h : gget GS g = some cs) :
    ¬ V g ∧ ¬ Ow Γ s.hp g ∧ ∃ c e fr, w.heap[g]? = some (.cells c e fr) ∧ c.size = cs.length ∧ ∀ (j : Nat) (y : PV), cs[j]? = some y → j < c.size ∧ ∀ w' A, DR w' A y (c.getD j undef) := by
  obtain ⟨h1, h2, c, e, fr, h3, h4⟩ := R.vlt.2 g cs h
  have hl := block_lt h3
  exact ⟨h1, fun ho => (R.own g ho).elim (fun hs => by omega) h2, c, e, fr, (R.kp.block g hl h2).trans h3, h4⟩

theorem DR.step {w w' : World} {A A' : Bl} (hw : ∀ b, b < w.heap.size → ¬ A b → w'.heap[b]? = w.heap[b]?) (hA : ∀ b, b < w.heap.size → A' b → A b) {x : PV} {v : Value} (h : DR w A x v) : DR w' A' x v := by
  induction h with
  | junk v => exact .junk v
  | bool b => exact .bool b
  | int k n => exact .int k n
  | str s => exact .str s
  | raw v => exact .raw v
  | nilp => exact .nilp
  | nils => exact .nils
  | agg xs cs hl _ ih => exact .agg xs cs hl ih
  | tup xs cs hl _ ih => exact .tup xs cs hl ih
  | fn f xs cs hl _ ih => exact .fn f xs cs hl ih
  | far0 a cap => exact .far0 a cap
  | ifc t v => exact .ifc t v
  | far xs β o cap sz c e fr hA' hw' hc hz hb _ ih => exact .far xs β o cap sz c e fr (fun h => hA' (hA β (block_lt hw') h)) ((hw β (block_lt hw') hA').trans hw') hc hz hb ih
  | fel xs β o c e fr hA' hw' hb _ ih => exact .fel xs β o c e fr (fun h => hA' (hA β (block_lt hw') h)) ((hw β (block_lt hw') hA').trans hw') hb ih

theorem VR.step {w w' : World} {A A' : Bl} {Γ : Nat → Value} {hp : Hp} (hw : ∀ b, b < w.heap.size → ¬ A b → w'.heap[b]? = w.heap[b]?) (hA : ∀ b, b < w.heap.size → A' b → A b) {x : PV} {v : Value} (h : VR w A Γ hp x v) : VR w' A' Γ hp x v := by
  induction h with
  | data h => exact .data (h.step hw hA)
  | agg xs cs hl _ ih => exact .agg xs cs hl ih
  | tup xs cs hl _ ih => exact .tup xs cs hl ih
  | fn f xs cs hl _ ih => exact .fn f xs cs hl ih
  | row g n v ho hg h => exact .row g n v ho hg h
  | view g n lo hi v ho hg h => exact .view g n lo hi v ho hg h
  | elt g n i off v ho hg h => exact .elt g n i off v ho hg h
  | ref b off v ho hg h => exact .ref b off v ho hg h

theorem VR.keys {w : World} {A : Bl} {Γ Γ' : Nat → Value} {hp hp' : Hp} (hk : Grow Γ Γ' hp hp') {x : PV} {v : Value} (h : VR w A Γ hp x v) : VR w A Γ' hp' x v := by
  induction h with
  | data h => exact .data h
  | agg xs cs hl _ ih => exact .agg xs cs hl ih
  | tup xs cs hl _ ih => exact .tup xs cs hl ih
  | fn f xs cs hl _ ih => exact .fn f xs cs hl ih
  | row g n v ho hg h =>
    refine .row g n v ho (hk g hg).1 fun sz xs' e => ?_
    obtain ⟨xs, e1, e2, e3⟩ := (hk g hg).2.1 sz xs' e
    obtain ⟨h1, h2⟩ := h sz xs e1
    refine ⟨by omega, fun hn => ?_⟩
    rw [e3 (by omega)]
    exact h2 (by omega)
  | view g n lo hi v ho hg h =>
    refine .view g n lo hi v ho (hk g hg).1 fun sz xs' e => ?_
    obtain ⟨xs, e1, e2, e3⟩ := (hk g hg).2.1 sz xs' e
    obtain ⟨h1, h2⟩ := h sz xs e1
    refine ⟨by omega, fun hn => ?_⟩
    rw [e3 (by omega)]
    exact h2 (by omega)
  | elt g n i off v ho hg h =>
    refine .elt g n i off v ho (hk g hg).1 fun sz xs' e => ?_
    obtain ⟨xs, e1, e2, e3⟩ := (hk g hg).2.1 sz xs' e
    obtain ⟨h1, h2⟩ := h sz xs e1
    refine ⟨by omega, fun hn => ?_⟩
    rw [e3 (by omega)]
    exact h2 (by omega)
  | ref b off v ho hg h =>
    refine .ref b off v ho (hk b hg).1 fun q cs' e => ?_
    obtain ⟨e1, cs, e2⟩ := (hk b hg).2.2 q cs' e
    rw [e1]; exact h q cs e2
end Go.Pv

/- Plain mathematics: words for texts and rows of numbers. No program in it. -/
namespace Go.Mth
open Go.RowKit
def rd (xs : List Int) (i : Int) : Int := xs.getD i.toNat 0
def rdOf {α : Type} (d : α) (xs : List α) (i : Int) : α := xs.getD i.toNat d
def b8 (s : ByteArray) (i : Nat) : UInt8 := s.data.toList.getD i 0
/-- A byte of a text, as a number. -/
def bt (s : ByteArray) (i : Int) : Int := ((b8 s i.toNat).toNat : Int)
def bytesOf (s : ByteArray) : List Int := s.data.toList.map fun b => (b.toNat : Int)
def strOf (l : List Int) : ByteArray := ⟨(l.map fun n => UInt8.ofNat n.toNat).toArray⟩
theorem rd_bytesOf (s : ByteArray) (i : Int) : rd (bytesOf s) i = bt s i := by
  unfold rd bytesOf bt b8
  rw [show (0 : Int) = (fun b : UInt8 => ((b.toNat : Nat) : Int)) 0 from rfl, List.getD_eq_getElem?_getD, List.getElem?_map, List.getD_eq_getElem?_getD]
  cases s.data.toList[i.toNat]? <;> rfl
theorem bt_range (s : ByteArray) (i : Int) : 0 ≤ bt s i ∧ bt s i ≤ 255 := by
  unfold bt
  have := (b8 s i.toNat).toNat_lt
  omega
def shl (k : IntKind) (x y : Int) : Int := k.wrap (x * 2 ^ min y.toNat k.bits)
def shr (k : IntKind) (x y : Int) : Int := x.fdiv (2 ^ min y.toNat k.bits)
end Go.Mth

/- What one operation does to plain values. -/
namespace Go.Pv
open Go.RowKit Go.Mth

inductive TI where
  | bool | int (k : IntKind) | str | slice (e : TypeId) | arr (n : Nat) (e : TypeId) | struct (fs : List (Nat × TypeId)) | ptr (e : TypeId) | iface | other

/-- What is known of a type: its form, its cells, its bytes, its zero value's cells. -/
structure TE where
  ti : TI
  sz : Nat
  bytes : Nat
  zero : List PV

def TI.agg : TI → Bool
  | .arr _ _ | .struct _ => true
  | _ => false

def toV : PV → Value
  | .bool b => .bool b
  | .int k n => .int k n
  | .str s => .string s
  | .raw v => v
  | .nilp => .pointer none
  | .nils => .slice none 0 0
  | _ => undef

def TE.zval (e : TE) : Value := if e.ti.agg then .agg (e.zero.map toV).toArray else toV (e.zero.getD 0 .junk)

/-- A struct of whole numbers, texts and Bools alone. -/
def TE.flatS (e : TE) : Bool := (match e.ti with
  | .struct _ => true
  | _ => false) && e.zero.all fun x => match x with
    | .bool _ | .int _ _ | .str _ => true
    | _ => false
/-- A struct that '==' takes field by field. -/
def eqOkB (P : Program) (t : TypeId) : Bool := (match P.underlying t with
  | some (.struct fs) => fs.toList.all (fun f => !(f.name == "_"))
  | _ => false) && !P.stoodInHeld t && !P.eqGuardType P.depth t
structure TEok (P : Program) (t : TypeId) (e : TE) : Prop where
  info : (P.info? t).map (fun i => (i.size, i.bytes, i.zero)) = some (e.sz, e.bytes, some e.zval)
  zero : e.zero.length = e.sz ∧ (∀ x ∈ e.zero, (match x with | .bool _ | .int _ _ | .str _ | .nilp | .nils => true | .raw v => v.oneCell' | _ => false) = true)
  one : e.ti.agg = false → e.sz = 1
  und : match e.ti with
    | .bool => P.underlying t = some .bool
    | .int k => P.underlying t = some (.int k)
    | .str => P.underlying t = some .string
    | .slice u => P.underlying t = some (.slice u)
    | .arr n u => P.underlying t = some (.array n u)
    | .struct fs => ∃ fields, P.underlying t = some (.struct fields) ∧ fields.toList.map (fun f => (f.offset, f.type, (P.info? f.type).isSome)) = fs.map (fun p => (p.1, p.2, true))
    | .ptr u => P.underlying t = some (.pointer u)
    | .iface => ∃ ms, P.underlying t = some (.interface ms)
    | .other => ∃ d, P.underlying t = some d ∧ (match d with | .struct _ | .array _ _ => false | _ => true) = true
  eqs : e.flatS = true → eqOkB P t = true

abbrev Tab := TypeId → Option TE
def Tok (P : Program) (T : Tab) : Prop := ∀ t e, T t = some e → TEok P t e

/-- One cell's value, that may be written. -/
def cell1 : PV → Bool
  | .junk | .agg _ | .tup _ => false
  | .raw v => v.oneCell'
  | _ => true
/-- Without keys, whatever is known of it. -/
def data1 : PV → Bool
  | .bool _ | .int _ _ | .str _ | .raw _ | .nilp | .nils | .far _ | .fel _ | .ifc _ => true
  | _ => false

def splice (cs : List PV) (off : Nat) (vs : List PV) : List PV := cs.take off ++ vs ++ cs.drop (off + vs.length)

/-- A constant. -/
def cv1 : Value → PV
  | .bool b => .bool b
  | .int k n => .int k n
  | .string s => .str s
  | .pointer none => .nilp
  | .slice none 0 0 => .nils
  | v => .raw v
def cv : Value → PV
  | .agg cs => .agg (cs.toList.map cv1)
  | v => cv1 v

def gevo (g : Nat) : Option (List PV) → PV
  | some cs => .fel cs
  | none => .raw (.pointer (some ⟨g, 0, none⟩))
def gev (g : Nat) : PV := gevo g (gget GS g)
def St.ev (s : St) : Operand → PV
  | .tmp t => tget s.tm t
  | .const v => cv v
  | .global g => gev g
  | .func f => .fn (.func f) []

def byteOf : PV → UInt8
  | .int .u8 n => UInt8.ofNat n.toNat
  | _ => 0
def strP (xs : List PV) : ByteArray := ⟨(xs.map byteOf).toArray⟩
def isByte : PV → Prop
  | .int .u8 n => 0 ≤ n ∧ n < 256
  | _ => False
def bytesP (s : ByteArray) : List PV := s.data.toList.map fun b => .int .u8 b.toNat

/-- The elements of a slice that is only read. -/
def elems (hp : Hp) : PV → Option (List PV)
  | .far xs => some xs
  | .nils => some []
  | .raw (.slice _ 0 _) => some []
  | .row g n => match hget hp g with
    | some (.row _ xs) => if n = xs.length then some xs else none
    | _ => none
  | .view g n lo hi => match hget hp g with
    | some (.row _ xs) => if n = xs.length then some ((xs.take hi).drop lo) else none
    | _ => none
  | _ => none

/-- The cells that a pointer's variable holds, from the pointer on. -/
def cellsAt (hp : Hp) : PV → Option (List PV)
  | .fel xs => some xs
  | .ref b off => match hget hp b with
    | some (.box _ cs) => some (cs.drop off)
    | _ => none
  | .elt g n i off => match hget hp g with
    | some (.row _ xs) => if n = xs.length ∧ i < n then some ((flat (xs.getD i .junk)).drop off) else none
    | _ => none
  | _ => none

def bin (isB : Bool) (op : BinOp) (x y : PV) (K : PV → Prop) : Prop := match x, y with
  | .int k a, .int k' b => match op with
    | .shl => 0 ≤ b ∧ K (.int k (k.wrap (a * 2 ^ (min b.toNat k.bits))))
    | .shr => 0 ≤ b ∧ K (.int k (a.fdiv (2 ^ (min b.toNat k.bits))))
    | .add => k = k' ∧ K (.int k (k.wrap (a + b)))
    | .sub => k = k' ∧ K (.int k (k.wrap (a - b)))
    | .mul => k = k' ∧ K (.int k (k.wrap (a * b)))
    | .quo => k = k' ∧ b ≠ 0 ∧ K (.int k (k.wrap (a.tdiv b)))
    | .rem => k = k' ∧ b ≠ 0 ∧ K (.int k (a.tmod b))
    | .and => k = k' ∧ K (.int k (bits .and k a b))
    | .or => k = k' ∧ K (.int k (bits .or k a b))
    | .xor => k = k' ∧ K (.int k (bits .xor k a b))
    | .andNot => k = k' ∧ K (.int k (bits .andNot k a b))
    | .eql => k = k' ∧ K (.bool (decide (a = b)))
    | .neq => k = k' ∧ K (.bool (!decide (a = b)))
    | .lss => k = k' ∧ K (.bool (decide (a < b)))
    | .leq => k = k' ∧ K (.bool (decide (a ≤ b)))
    | .gtr => k = k' ∧ K (.bool (decide (b < a)))
    | .geq => k = k' ∧ K (.bool (decide (b ≤ a)))
  | .str a, .str b => match op with
    | .add => a.size + b.size ≤ 9223372036854775807 ∧ K (.str (a ++ b))
    | .eql => K (.bool (decide (a = b)))
    | .neq => K (.bool (!decide (a = b)))
    | .lss => K (.bool (Op.bytesLess a.toList b.toList))
    | .leq => K (.bool (Op.bytesLess a.toList b.toList || decide (a = b)))
    | .gtr => K (.bool (!(Op.bytesLess a.toList b.toList || decide (a = b))))
    | .geq => K (.bool (!Op.bytesLess a.toList b.toList))
    | _ => False
  | .bool a, .bool b => match op with
    | .eql => isB = true ∧ K (.bool (a == b))
    | .neq => isB = true ∧ K (.bool (!(a == b)))
    | _ => False
  | _, _ => False

def okPart : PV → Bool
  | .agg _ => true
  | x => cell1 x
def zeroElem (e : TE) : PV := if e.ti.agg then .agg e.zero else e.zero.getD 0 .junk

def buildS (T : Tab) (fs : List (Nat × TypeId)) : List PV → List (Nat × PV) → (List PV → Prop) → Prop
  | cs, [], K => K cs
  | cs, (i, x) :: r, K => match fs[i]? with
    | some (off, ft) => match T ft with
      | some fe => (flat x).length = fe.sz ∧ okPart x = true ∧ off + fe.sz ≤ cs.length ∧ buildS T fs (splice cs off (flat x)) r K
      | none => False
    | none => False

def clol (f : PV → Prop) : List PV → Prop
  | [] => True
  | x :: r => f x ∧ clol f r
theorem clol_mem {f : PV → Prop} : ∀ {l : List PV}, clol f l → ∀ x ∈ l, f x
  | [], _, x, h => by simp at h
  | y :: r, ⟨h1, h2⟩, x, h => (List.mem_cons.1 h).elim (fun e => e ▸ h1) (clol_mem h2 x)
def seqOk : List Nat → Nat → Bool
  | [], _ => true
  | i :: r, k => i == k && seqOk r (k + 1)

/-- The bounds of a slice expression: from .. to, of so many. -/
def bounds (len : Nat) (lo hi : Option PV) (K : Nat → Nat → Prop) : Prop :=
  match lo, hi with
  | none, none => K 0 len
  | some (.int _ l), none => 0 ≤ l ∧ l ≤ len ∧ K l.toNat len
  | none, some (.int _ h) => 0 ≤ h ∧ h ≤ len ∧ K 0 h.toNat
  | some (.int _ l), some (.int _ h) => 0 ≤ l ∧ l ≤ h ∧ h ≤ len ∧ K l.toNat h.toNat
  | _, _ => False

/-- Three bounds of a slice expression. -/
def bnd3 (n : Nat) : PV → PV → PV → Prop
  | .int _ l, .int _ h, .int _ m => 0 ≤ l ∧ l ≤ h ∧ h ≤ m ∧ m ≤ n
  | _, _, _ => False

def isBoolT (T : Tab) (t : TypeId) : Bool := match T t with
  | some te => match te.ti with
    | .bool => true
    | _ => false
  | none => false
def lenOk (T : Tab) : List TypeId → Bool → Bool
  | [t], sl => match T t with
    | some te => match te.ti with
      | .str => !sl
      | .slice _ => sl
      | _ => false
    | none => false
  | _, _ => false

/-- '==' of structs, field by field. -/
def fcmp1 : Option TE → PV → PV → Option Bool
  | some ⟨.int _, _, _, _⟩, .int k a, .int k' b => if k = k' then some (decide (a = b)) else none
  | some ⟨.str, _, _, _⟩, .str a, .str b => some (decide (a = b))
  | some ⟨.bool, _, _, _⟩, .bool a, .bool b => some (a == b)
  | _, _, _ => none
def fand : Option Bool → Option Bool → Option Bool
  | some a, some b => some (a && b)
  | _, _ => none
def fcmp (T : Tab) : List (Nat × TypeId) → Nat → List PV → List PV → Option Bool
  | [], _, [], [] => some true
  | (off, ft) :: fs, i, x :: xs, y :: ys => if off = i then fand (fcmp1 (T ft) x y) (fcmp T fs (i + 1) xs ys) else none
  | _, _, _, _ => none
def sbk (op : BinOp) (K : PV → Prop) : Option Bool → Prop
  | some b => match op with
    | .eql => K (.bool b)
    | .neq => K (.bool (!b))
    | _ => False
  | none => False
def sbt (T : Tab) (op : BinOp) (xs ys : List PV) (K : PV → Prop) : Option TE → Prop
  | some ⟨.struct fs, sz, by', z⟩ => (TE.mk (.struct fs) sz by' z).flatS = true ∧ sbk op K (fcmp T fs 0 xs ys)
  | _ => False
def isS1 : Option TE → Bool
  | some ⟨.slice _, _, _, _⟩ => true
  | _ => false
/-- A slice held against nil. -/
def sln : PV → Option Bool
  | .nils => some true
  | .far (_ :: _) => some false
  | .raw (.slice a _ _) => some a.isNone
  | _ => none
def bin2 (T : Tab) (t : TypeId) (op : BinOp) (x y : PV) (K : PV → Prop) : Prop := match x, y with
  | .agg xs, .agg ys => sbt T op xs ys K (T t)
  | x, .nils => isS1 (T t) = true ∧ sbk op K (sln x)
  | x, y => bin (isBoolT T t) op x y K

def isNil : Operand → Bool
  | .const .nilIface => true
  | _ => false
def isIf (T : Tab) (t : TypeId) : Bool := match T t with
  | some ⟨.iface, _, _, _⟩ => true
  | _ => false
def isIn (T : Tab) (t : TypeId) : Bool := match T t with
  | some ⟨.int _, _, _, _⟩ => true
  | _ => false
/-- An interface value held against the literal nil. -/
def ifn (b : Bool) (op : BinOp) (x : PV) (K : PV → Prop) : Prop := match b, x with
  | true, .raw .nilIface => sbk op K (some true)
  | true, .raw (.iface _ _) => sbk op K (some false)
  | true, .ifc _ => sbk op K (some false)
  | _, _ => False
/-- A number as an interface value. -/
def mki (b : Bool) (t : TypeId) (x : PV) (K : PV → Hp → Prop) : Prop := match b, x with
  | true, .int k n => K (.raw (.iface t (.int k n))) []
  | _, _ => False
/-- One operation that turns no memory that there is: its value, and what it makes. -/
def qop (T : Tab) (hp : Hp) (key : Nat) (ρ : Operand → PV) (K : PV → Hp → Prop) : Op → Prop
  | .move x | .assign x => K (ρ x) []
  | .pick c a b => match ρ c with
    | .bool t => K (if t then ρ a else ρ b) []
    | _ => False
  | .alloc e => match T e with
    | some te => K (.ref key 0) [(key, .box e te.zero)]
    | none => False
  | .box e x => (flat (ρ x)).all cell1 = true ∧ K (.ref key 0) [(key, .box e (flat (ρ x)))]
  | .build t parts => match T t with
    | some te => match te.ti with
      | .struct fs => buildS T fs te.zero (parts.toList.map fun p => (p.1, ρ p.2)) fun cs => K (.agg cs) []
      | .arr m e => match T e with
        | some ee => buildS T ((List.range m).map fun i => (i * ee.sz, e)) te.zero (parts.toList.map fun p => (p.1, ρ p.2)) fun cs => K (.agg cs) []
        | none => False
      | _ => False
    | none => False
  | .buildSlice t len parts => match T t with
    | some te => match te.ti with
      | .slice e => match T e with
        | some ee => 0 < ee.sz ∧ len * ee.sz ≤ 16777216 ∧ seqOk (parts.toList.map (·.1)) 0 = true ∧ parts.size = len ∧ clol (fun x => (flat x).length = ee.sz ∧ (flat x).all cell1 = true ∧ (flat x).all data1 = true) (parts.toList.map (fun p => ρ p.2)) ∧
            K (.row key len) [(key, .row ⟨ee.sz, 0⟩ (parts.toList.map fun p => ρ p.2))]
        | none => False
      | _ => False
    | none => False
  | .makeSlice t l c => match T t with
    | some te => match te.ti with
      | .slice e => match T e with
        | some ee => match ρ l, ρ c with
          | .int _ n, .int _ m => 0 < ee.sz ∧ 0 ≤ n ∧ n ≤ m ∧ m ≤ 281474976710656 ∧ m * ee.bytes ≤ 281474976710656 ∧ K (.row key n.toNat) [(key, .row ⟨ee.sz, 0⟩ (List.replicate n.toNat (zeroElem ee)))]
          | _, _ => False
        | none => False
      | _ => False
    | none => False
  | .load t a => match T t with
    | some te => match cellsAt hp (ρ a) with
      | some cs => if te.ti.agg then 0 < te.sz ∧ te.sz ≤ cs.length ∧ K (.agg (cs.take te.sz)) [] else 0 < cs.length ∧ K (cs.getD 0 .junk) []
      | none => False
    | none => False
  | .nilCheck x => (cellsAt hp (ρ x)).isSome = true ∧ K (ρ x) []
  | .binOp op t x y _ => if isNil y = true then ifn (isIf T t) op (ρ x) fun v => K v [] else bin2 T t op (ρ x) (ρ y) fun v => K v []
  | .makeInterface t x => mki (isIn T t) t (ρ x) K
  | .unOp op _ x => match op, ρ x with
    | .not, .bool b => K (.bool (!b)) []
    | .neg, .int k n => K (.int k (k.wrap (0 - n))) []
    | .xor, .int k n => K (.int k (bits .xor k (if k.signed then -1 else k.max) n)) []
    | _, _ => False
  | .convert src dst x => match T src, T dst with
    | some te, some de => match de.ti, ρ x with
      | .int k, .int _ n => K (.int k (k.wrap n)) []
      | .str, .str s => K (.str s) []
      | .slice e, .str s => match T e with
        | some ee => match ee.ti with
          | .int .u8 => ee.sz = 1 ∧ te.ti = .str ∧ K (.row key s.size) [(key, .row ⟨1, 0⟩ (bytesP s))]
          | _ => False
        | none => False
      | .str, y => match te.ti with
        | .slice e => match T e with
          | some ee => match ee.ti with
            | .int .u8 => ee.sz = 1 ∧ ∃ xs, elems hp y = some xs ∧ (∀ z ∈ xs, isByte z) ∧ K (.str (strP xs)) []
            | _ => False
          | none => False
        | _ => False
      | _, _ => False
    | _, _ => False
  | .slice t x lo hi none => match T t with
    | some te => match te.ti, ρ x with
      | .str, .str s => bounds s.size (lo.map ρ) (hi.map ρ) fun l h => K (.str (s.extract l h)) []
      | .slice e, .far xs => (∃ ee, T e = some ee ∧ ∀ y ∈ xs, (flat y).length = ee.sz) ∧ bounds xs.length (lo.map ρ) (hi.map ρ) fun l h => K (.far ((xs.take h).drop l)) []
      | .slice e, .row g n => match hget hp g with
        | some (.row sz xs) => n = xs.length ∧ (∃ ee, T e = some ee ∧ ee.sz = sz) ∧ bounds n (lo.map ρ) (hi.map ρ) fun l h => K (.view g n l h) []
        | _ => False
      | .slice e, .view g n l0 h0 => match hget hp g with
        | some (.row sz xs) => n = xs.length ∧ l0 = 0 ∧ (∃ ee, T e = some ee ∧ ee.sz = sz) ∧ bounds (if hi.isSome then n else h0) (lo.map ρ) (hi.map ρ) fun l h => K (.view g n l h) []
        | _ => False
      | _, _ => False
    | none => False
  | .slice t x (some lo) (some hi) (some mx) => match T t with
    | some te => match te.ti, ρ x with
      | .slice e, .row g n => match hget hp g with
        | some (.row sz xs) => n = xs.length ∧ (T e).isSome = true ∧ bnd3 n (ρ lo) (ρ hi) (ρ mx) ∧ K .junk []
        | _ => False
      | _, _ => False
    | none => False
  | .fieldAddr t x f => match T t with
    | some te => match te.ti with
      | .struct fs => match fs[f]? with
        | some (off, ft) => match T ft with
          | some fe => 0 < fe.sz ∧ (cellsAt hp (ρ x)).isSome = true ∧ match ρ x with
            | .ref b o => K (.ref b (o + off)) []
            | .elt g n i o => K (.elt g n i (o + off)) []
            | .fel xs => K (.fel (xs.drop off)) []
            | _ => False
          | none => False
        | none => False
      | _ => False
    | none => False
  | .field t x f => match T t with
    | some te => match te.ti with
      | .struct fs => match fs[f]? with
        | some (off, ft) => match T ft with
          | some fe => match ρ x with
            | .agg cs => if fe.ti.agg then off + fe.sz ≤ cs.length ∧ K (.agg ((cs.drop off).take fe.sz)) [] else off < cs.length ∧ K (cs.getD off .junk) []
            | _ => False
          | none => False
        | none => False
      | _ => False
    | none => False
  | .indexAddr t x i => match T t, ρ i with
    | some te, .int _ j => match te.ti with
      | .slice e => match T e with
        | some ee => match ρ x with
          | .far xs => 0 ≤ j ∧ j < xs.length ∧ (flat (xs.getD j.toNat .junk)).length = ee.sz ∧ K (.fel (flat (xs.getD j.toNat .junk))) []
          | .row g n => match hget hp g with
            | some (.row sz xs) => n = xs.length ∧ sz = ee.sz ∧ 0 ≤ j ∧ j < n ∧ K (.elt g n j.toNat 0) []
            | _ => False
          | .view g n lo hi => match hget hp g with
            | some (.row sz xs) => n = xs.length ∧ sz = ee.sz ∧ 0 ≤ j ∧ j < ((hi - lo : Nat) : Int) ∧ K (.elt g n (lo + j.toNat) 0) []
            | _ => False
          | _ => False
        | none => False
      | .arr m e => match T e with
        | some ee => match ρ x with
          | .ref b off => (cellsAt hp (ρ x)).isSome = true ∧ 0 ≤ j ∧ j < m ∧ K (.ref b (off + j.toNat * ee.sz)) []
          | .fel xs => 0 ≤ j ∧ j < m ∧ K (.fel (xs.drop (j.toNat * ee.sz))) []
          | _ => False
        | none => False
      | _ => False
    | _, _ => False
  | .index t x i => match T t, ρ x, ρ i with
    | some te, .str s, .int _ j => match te.ti with
      | .str => 0 ≤ j ∧ j < s.size ∧ K (.int .u8 (b8 s j.toNat).toNat) []
      | _ => False
    | some te, .agg cs, .int _ j => match te.ti with
      | .arr m e => match T e with
        | some ee => ee.ti.agg = false ∧ 0 ≤ j ∧ j < m ∧ j.toNat * ee.sz < cs.length ∧ K (cs.getD (j.toNat * ee.sz) .junk) []
        | none => False
      | _ => False
    | _, _, _ => False
  | .extract t i => match ρ t with
    | .tup xs => i < xs.length ∧ K (xs.getD i .junk) []
    | _ => False
  | .makeFunc f first caps => first = #[] ∧ K (.fn f (caps.toList.map ρ)) []
  | .call { callee := .builtin b, args := args, argTypes := ts } => match b, args.toList.map ρ with
    | .len, [x] => match x with
      | .str s => lenOk T ts.toList false = true ∧ K (.int .i64 s.size) []
      | _ => lenOk T ts.toList true = true ∧ ∃ xs, elems hp x = some xs ∧ K (.int .i64 xs.length) []
    | .min, [.int k a, .int k' b] => k = k' ∧ K (.int k (if b < a then b else a)) []
    | .max, [.int k a, .int k' b] => k = k' ∧ K (.int k (if b > a then b else a)) []
    | _, _ => False
  | _ => False

def idx : List Nat → Nat → Nat → Option Nat
  | [], _, _ => none
  | k :: r, g, j => if g = k then some j else idx r g (j + 1)

/-- A value as a call gets it: keys of κ are handed over, those of K are read only. -/
def cvt0 (hp : Hp) (K κ : List Nat) : PV → Option PV
  | .junk => some .junk
  | .row g n => match idx κ g 0 with
    | some j => some (.row j n)
    | none => if K.contains g then (elems hp (.row g n)).map .far else none
  | .view g n lo hi => match idx κ g 0 with
    | some j => some (.view j n lo hi)
    | none => if K.contains g then (elems hp (.view g n lo hi)).map .far else none
  | .elt g n i off => match idx κ g 0 with
    | some j => some (.elt j n i off)
    | none => none
  | .ref b off => match idx κ b 0 with
    | some j => some (.ref j off)
    | none => none
  | x => if data1 x then some x else none
def cvtl (f : PV → Option PV) : List PV → Option (List PV)
  | [] => some []
  | x :: r => match f x, cvtl f r with
    | some y, some ys => some (y :: ys)
    | _, _ => none
def cvt1 (hp : Hp) (K κ : List Nat) : PV → Option PV
  | .ref b off => match idx κ b 0 with
    | some j => some (.ref j off)
    | none => if K.contains b then ((cellsAt hp (.ref b off)).bind (cvtl (cvt0 hp K []))).map .fel else none
  | .nils => some (.far [])
  | x => cvt0 hp K κ x
def cvt (hp : Hp) (K κ : List Nat) : PV → Option PV
  | .agg xs => (cvtl (cvt1 hp K κ) xs).map .agg
  | .fn f xs => (cvtl (cvt1 hp K κ) xs).map (.fn f)
  | x => cvt1 hp K κ x
/-- The memory that is handed over. -/
def hand (hp : Hp) (K κ : List Nat) : List Nat → Nat → Option Hp
  | [], _ => some []
  | k :: r, j => match hget hp k, hand hp K κ r (j + 1) with
    | some (.box q cs), some h => (cvtl (cvt0 hp K κ) cs).map fun ds => (j, .box q ds) :: h
    | some (.row sz xs), some h => some ((j, .row sz xs) :: h)
    | _, _ => none

/-- The keys of a result, as the caller calls them. -/
def sg (κ : List Nat) (key j : Nat) : Nat := if j < 64 then κ.getD j 0 else key + (j - 64)
def rk1 (σ : Nat → Nat) : PV → PV
  | .row g n => .row (σ g) n
  | .view g n lo hi => .view (σ g) n lo hi
  | .elt g n i off => .elt (σ g) n i off
  | .ref b off => .ref (σ b) off
  | x => x
def rk2 (σ : Nat → Nat) : PV → PV
  | .agg xs => .agg (xs.map (rk1 σ))
  | x => rk1 σ x
def rk (σ : Nat → Nat) : PV → PV
  | .tup xs => .tup (xs.map (rk2 σ))
  | x => rk2 σ x
def rkH (σ : Nat → Nat) : Hp → Hp
  | [] => []
  | (k, .box q cs) :: r => (σ k, .box q (cs.map (rk1 σ))) :: rkH σ r
  | (k, .row sz xs) :: r => (σ k, .row sz xs) :: rkH σ r
  | (k, .dead) :: r => (σ k, .dead) :: rkH σ r
/-- The keys that were handed over and do not come back. -/
def gone (hr : Hp) : List Nat → Nat → Hp
  | [], _ => []
  | k :: r, j => match hget hr j with
    | none => (k, .dead) :: gone hr r (j + 1)
    | some _ => gone hr r (j + 1)

end Go.Pv

/- How the relation between plain values and a state of the machine is kept. -/
namespace Go.Pv
open Go.RowKit

variable {P : Program} {T : Tab} {w0 w w' : World} {Γ0 : Nat → Value} {h0 : Hp} {V M A A' : Bl} {Γ Γ' : Nat → Value} {hp hp' : Hp} {s : St} {a : Act}

theorem getD_eq {cs : Array Value} {i : Nat} {v : Value} (h : cs[i]? = some v) : cs.getD i undef = v := by
  simp [h]

theorem cv1_dr (v : Value) : DR w A (cv1 v) v := by
  cases v with
  | bool b => exact .bool b
  | int k n => exact .int k n
  | string s => exact .str s
  | pointer a => cases a with
    | none => exact .nilp
    | some a => exact .raw _
  | slice a len cap =>
    cases a with
    | some a => exact .raw _
    | none =>
      cases len with
      | succ n => exact .raw _
      | zero => cases cap with
        | zero => exact .nils
        | succ n => exact .raw _
  | _ => exact .raw _

theorem cv_dr (v : Value) : DR w A (cv v) v := by
  cases v with
  | agg cs =>
    refine .agg _ cs (by simp) fun i x hx => ?_
    simp only [List.getElem?_map, Option.map_eq_some_iff] at hx
    obtain ⟨y, hy, rfl⟩ := hx
    rw [getD_eq (by simpa using hy)]
    exact cv1_dr y
  | bool b => exact cv1_dr (.bool b)
  | int k n => exact cv1_dr (.int k n)
  | float k n => exact cv1_dr (.float k n)
  | complex k n m => exact cv1_dr (.complex k n m)
  | string n => exact cv1_dr (.string n)
  | pointer n => exact cv1_dr (.pointer n)
  | slice n l c => exact cv1_dr (.slice n l c)
  | map n => exact cv1_dr (.map n)
  | chan n => exact cv1_dr (.chan n)
  | func n l c => exact cv1_dr (.func n l c)
  | nilFunc => exact cv1_dr .nilFunc
  | iface n l => exact cv1_dr (.iface n l)
  | nilIface => exact cv1_dr .nilIface
  | tuple n => exact cv1_dr (.tuple n)

theorem RelG.ev (R : RelG w0 V M Γ0 h0 Γ s a w) (x : Operand) : VR w (Av V Γ s.hp) Γ s.hp (s.ev x) (a.eval x) := by
  cases x with
  | tmp t => exact R.tm t
  | const v => exact .data (cv_dr v)
  | global g =>
    show VR w _ Γ s.hp (gevo g (gget GS g)) (.pointer (some ⟨g, 0, none⟩))
    cases h : gget GS g with
    | none => exact .data (.raw _)
    | some cs =>
      obtain ⟨q1, q2, c, e, fr, q3, _, q4⟩ := R.glo h
      exact .data (.fel cs g 0 c e fr (fun hb => hb.elim q1 q2) q3 (fun j y hy => by rw [Nat.zero_add]; exact (q4 j y hy).1) (fun j y hy => by rw [Nat.zero_add]; exact (q4 j y hy).2 _ _))
  | func f => exact .data (.fn _ [] #[] rfl (by intro i x h; simp at h))

/-- What is asked of a change of memory. -/
structure Chg (V : Bl) (Γ Γ' : Nat → Value) (hp hp' : Hp) (w w' : World) : Prop where
  kp : Kp (Ow Γ hp) w w'
  grow : Grow Γ Γ' hp hp'
  own : ∀ b, Ow Γ' hp' b → w.heap.size ≤ b ∨ Ow Γ hp b
  hr : ∀ k, HR w' (Av V Γ' hp') Γ' hp' k
  dis : Dis Γ' hp'

theorem dr_lift (kp : Kp (Ow Γ hp) w w') (own : ∀ b, Ow Γ' hp' b → w.heap.size ≤ b ∨ Ow Γ hp b) {x : PV} {v : Value} (h : DR w (Av V Γ hp) x v) : DR w' (Av V Γ' hp') x v :=
  h.step (fun b hb hn => kp.block b hb (fun ho => hn (.inr ho))) (fun b hb ha => ha.elim .inl (fun ho => (own b ho).elim (fun hs => by omega) .inr))
theorem vr_lift (kp : Kp (Ow Γ hp) w w') (grow : Grow Γ Γ' hp hp') (own : ∀ b, Ow Γ' hp' b → w.heap.size ≤ b ∨ Ow Γ hp b) {x : PV} {v : Value} (h : VR w (Av V Γ hp) Γ hp x v) : VR w' (Av V Γ' hp') Γ' hp' x v :=
  (h.step (fun b hb hn => kp.block b hb (fun ho => hn (.inr ho))) (fun b hb ha => ha.elim .inl (fun ho => (own b ho).elim (fun hs => by omega) .inr))).keys grow

theorem Chg.vr (C : Chg V Γ Γ' hp hp' w w') {x : PV} {v : Value} (h : VR w (Av V Γ hp) Γ hp x v) : VR w' (Av V Γ' hp') Γ' hp' x v := vr_lift C.kp C.grow C.own h
theorem Chg.dr (C : Chg V Γ Γ' hp hp' w w') {x : PV} {v : Value} (h : DR w (Av V Γ hp) x v) : DR w' (Av V Γ' hp') x v := dr_lift C.kp C.own h

theorem hr_keep (kp : Kp (Ow Γ hp) w w') (grow : Grow Γ Γ' hp hp') (own : ∀ b, Ow Γ' hp' b → w.heap.size ≤ b ∨ Ow Γ hp b) {k : Nat} (e : hget hp' k = hget hp k) (eΓ : Γ' k = Γ k)
    (hb : ∀ b, live hp k → ob (Γ k) = some b → b < w.heap.size → w'.heap[b]? = w.heap[b]?) (h : HR w (Av V Γ hp) Γ hp k) : HR w' (Av V Γ' hp') Γ' hp' k := by
  unfold HR at *
  unfold live at hb
  rw [e]
  cases hh : hget hp k with
  | none => trivial
  | some c =>
    rw [hh] at h hb
    cases c with
    | dead => trivial
    | box q cs =>
      obtain ⟨β, c, fr, h1, h2, h3, h4, h5⟩ := h
      exact ⟨β, c, fr, by rw [eΓ, h1], (hb β trivial (by rw [h1]; rfl) (block_lt h2)).trans h2, h3, h4, fun j y hy => vr_lift kp grow own (h5 j y hy)⟩
    | row sz xs =>
      obtain ⟨h0, h⟩ := h
      refine ⟨h0, ?_⟩
      rcases h with ⟨h1, h2⟩ | ⟨β, o, cap, c, t, fr, h1, h2, hq, h3, h4, h5, h6, h7⟩
      · exact .inl ⟨h1, by rw [eΓ, h2]⟩
      · exact .inr ⟨β, o, cap, c, t, fr, by rw [eΓ, h1], (hb β trivial (by rw [h1]; rfl) (block_lt h2)).trans h2, hq, h3, h4, h5, h6, fun i x j y hx hy => dr_lift kp own (h7 i x j y hx hy)⟩

theorem Kp.widen {M N : Bl} (h : Kp M w w') (hm : ∀ b, M b → N b) : Kp N w w' := ⟨h.os, h.tape, h.output, h.size, fun b hb hn => h.block b hb (fun hM => hn (hm b hM))⟩

theorem Chg.rel (C : Chg V Γ Γ' s.hp hp' w w') (R : RelG w0 V M Γ0 h0 Γ s a w) : RelG w0 V M Γ0 h0 Γ' { s with hp := hp' } a w' :=
  ⟨R.kp.trans C.kp (fun _ h => h) R.own, R.defers, R.size, R.vlt, fun t => C.vr (R.tm t), C.hr, C.dis, fun b hb => (C.own b hb).elim (fun h => .inl (Nat.le_trans R.kp.size h)) (R.own b), R.gr.trans C.grow, R.low⟩

theorem Grow.refl (Γ : Nat → Value) (hp : Hp) : Grow Γ Γ hp hp := fun _ hg => ⟨hg, fun _ xs' h => ⟨xs', h, Nat.le_refl _, fun _ => rfl⟩, fun _ cs' h => ⟨rfl, cs', h⟩⟩

/-- A draw alone. -/
theorem Chg.same (R : RelG w0 V M Γ0 h0 Γ s a w) (he : w'.heap = w.heap) (ho : w'.os = w.os) (ht : w'.tape = w.tape) (hu : w'.output = w.output) : Chg V Γ Γ s.hp s.hp w w' :=
  have kp : Kp (Ow Γ s.hp) w w' := ⟨ho, ht, hu, by rw [he]; exact Nat.le_refl _, fun b _ _ => by rw [he]⟩
  ⟨kp, Grow.refl _ _, fun _ h => .inr h, fun k => hr_keep kp (Grow.refl _ _) (fun _ h => .inr h) rfl rfl (fun b _ _ _ => by rw [he]) (R.hp k), R.dis⟩

def tput : Option Tmp → PV → Tm → Tm
  | none, _, tm => tm
  | some d, v, tm => (d, v) :: tm
def St.put (s : St) (dst : Option Tmp) (v : PV) (c : Hp) : St := { n := s.n, tm := tput dst v s.tm, hp := c ++ s.hp }

theorem getD_put (a : Act) (d t : Nat) (v : Value) (h : d < a.tmps.size) : (a.put (some d) v).tmps.getD t undef = if t = d then v else a.tmps.getD t undef := by
  simp only [Act.put, Array.getD_eq_getD_getElem?]
  by_cases e : t = d
  · subst e
    rw [if_pos rfl, Array.getElem?_setIfInBounds_self_of_lt h]; rfl
  · rw [if_neg e, Array.getElem?_setIfInBounds_ne (fun h => e h.symm)]

theorem RelG.put (R : RelG w0 V M Γ0 h0 Γ s a w) {d : Nat} (hd : d < s.n) {x : PV} {v : Value} (h : VR w (Av V Γ s.hp) Γ s.hp x v) : RelG w0 V M Γ0 h0 Γ { s with tm := (d, x) :: s.tm } (a.put (some d) v) w :=
  ⟨R.kp, R.defers, by rw [show (a.put (some d) v).tmps = a.tmps.setIfInBounds d v from rfl, Array.size_setIfInBounds]; exact R.size, R.vlt, fun t => by
    rw [getD_put a d t v (by rw [R.size]; exact hd)]
    show VR w _ Γ s.hp (tget ((d, x) :: s.tm) t) _
    unfold tget
    split
    · exact h
    · exact R.tm t, R.hp, R.dis, R.own, R.gr, R.low⟩

theorem hget_app (c hp : Hp) (k : Nat) : hget (c ++ hp) k = match hget c k with | some x => some x | none => hget hp k := by
  induction c with
  | nil => rfl
  | cons p c ih =>
    obtain ⟨j, x⟩ := p
    simp only [List.cons_append, hget]
    split
    · rfl
    · exact ih

/-- What is made: a new block behind a new key. -/
theorem Chg.make (R : RelG w0 V M Γ0 h0 Γ s a w) {key : Nat} (hk : hget s.hp key = none) {c : HC} {v : Value} {cs : Array Value} {e : TypeId} {fr : Nat × Nat}
    (he : w'.heap = w.heap.push (.cells cs e fr)) (ho : w'.os = w.os) (ht : w'.tape = w.tape) (hu : w'.output = w.output) (hv : ob v = some w.heap.size ∨ ob v = none)
    (hn : ∀ Γ', Γ' key = v → (∀ x y, VR w (Av V Γ s.hp) Γ s.hp x y → VR w' (Av V Γ' ([(key, c)] ++ s.hp)) Γ' ([(key, c)] ++ s.hp) x y) → (∀ x y, DR w (Av V Γ s.hp) x y → DR w' (Av V Γ' ([(key, c)] ++ s.hp)) x y) →
      HR w' (Av V Γ' ([(key, c)] ++ s.hp)) Γ' ([(key, c)] ++ s.hp) key) :
    ∃ Γ', Chg V Γ Γ' s.hp ([(key, c)] ++ s.hp) w w' ∧ Γ' key = v := by
  obtain ⟨Γ', hΓk, hΓ⟩ : ∃ Γ' : Nat → Value, Γ' key = v ∧ ∀ g, g ≠ key → Γ' g = Γ g := ⟨fun k => if k = key then v else Γ k, if_pos rfl, fun g hg => if_neg hg⟩
  refine ⟨Γ', ?_, hΓk⟩
  have hne : ∀ g, hget s.hp g ≠ none → g ≠ key := fun g hg e => hg (e ▸ hk)
  have hold : ∀ g, g ≠ key → hget ([(key, c)] ++ s.hp) g = hget s.hp g := fun g hg => by simp [hget, hg]
  have hnew : ∀ b, b < w.heap.size → w'.heap[b]? = w.heap[b]? := fun b hb => by rw [he, Array.getElem?_push, if_neg (by omega)]
  have kp : Kp (Ow Γ s.hp) w w' := ⟨ho, ht, hu, by rw [he]; simp, fun b hb _ => hnew b hb⟩
  have grow : Grow Γ Γ' s.hp ([(key, c)] ++ s.hp) := fun g hg => by
    rw [hold g (hne g hg), hΓ g (hne g hg)]
    exact ⟨hg, fun sz xs h => ⟨xs, h, Nat.le_refl _, fun _ => rfl⟩, fun _ cs' h => ⟨rfl, cs', h⟩⟩
  have lives : ∀ g, g ≠ key → live ([(key, c)] ++ s.hp) g → live s.hp g := fun g hg h => by unfold live at *; rwa [hold g hg] at h
  have own : ∀ b, Ow Γ' ([(key, c)] ++ s.hp) b → w.heap.size ≤ b ∨ Ow Γ s.hp b := fun b ⟨k, h1, h2⟩ => by
    by_cases e : k = key
    · subst e
      rw [hΓk] at h2
      rcases hv with hv | hv
      · rw [hv] at h2; cases h2; exact .inl (Nat.le_refl _)
      · rw [hv] at h2; cases h2
    · rw [hΓ k e] at h2
      exact .inr ⟨k, lives k e h1, h2⟩
  have hlt : ∀ k b, live s.hp k → ob (Γ k) = some b → b < w.heap.size := fun k b hl hb => by
    have h := R.hp k
    unfold HR at h
    unfold live at hl
    cases hh : hget s.hp k with
    | none => rw [hh] at hl; exact hl.elim
    | some c =>
      rw [hh] at h hl
      cases c with
      | dead => exact hl.elim
      | box q cs => obtain ⟨β, c, fr, h1, h2, _⟩ := h; rw [h1] at hb; cases hb; exact block_lt h2
      | row sz xs =>
        rcases h.2 with ⟨_, h2⟩ | ⟨β, o, cap, c, t, fr, h1, h2, _⟩
        · rw [h2] at hb; cases hb
        · rw [h1] at hb; cases hb; exact block_lt h2
  refine ⟨kp, grow, own, fun k => ?_, fun k k' b l l' e e' => ?_⟩
  · by_cases ek : k = key
    · subst ek
      exact hn _ hΓk (fun x y h => vr_lift kp grow own h) (fun x y h => dr_lift kp own h)
    · exact hr_keep kp grow own (hold k ek) (hΓ k ek) (fun b _ _ hb => hnew b hb) (R.hp k)
  · by_cases ek : k = key
    · by_cases ek' : k' = key
      · exact ek.trans ek'.symm
      · subst ek
        rw [hΓk] at e
        rw [hΓ k' ek'] at e'
        have := hlt k' b (lives k' ek' l') e'
        rcases hv with hv | hv
        · rw [hv] at e; cases e; omega
        · rw [hv] at e; cases e
    · rw [hΓ k ek] at e
      have h1 := hlt k b (lives k ek l) e
      by_cases ek' : k' = key
      · subst ek'
        rw [hΓk] at e'
        rcases hv with hv | hv
        · rw [hv] at e'; cases e'; omega
        · rw [hv] at e'; cases e'
      · rw [hΓ k' ek'] at e'
        exact R.dis k k' b (lives k ek l) (lives k' ek' l') e e'

end Go.Pv

/- How the machine carries out single operations, at memory that is known. -/
namespace Go.Pv
open Go.RowKit

variable {P : Program} {T : Tab} {w0 w w' : World} {Γ0 : Nat → Value} {h0 : Hp} {V M A A' : Bl} {Γ Γ' : Nat → Value} {hp hp' : Hp} {s : St} {a : Act}

theorem TEok.get {t : TypeId} {e : TE} (h : TEok P t e) : ∃ i, P.info? t = some i ∧ i.size = e.sz ∧ i.bytes = e.bytes ∧ i.zero = some e.zval := by
  have := h.info
  cases hi : P.info? t with
  | none => rw [hi] at this; simp at this
  | some i =>
    rw [hi] at this
    simp only [Option.map_some, Option.some.injEq, Prod.mk.injEq] at this
    exact ⟨i, rfl, this.1, this.2.1, this.2.2⟩
theorem run_size {t : TypeId} {e : TE} (h : TEok P t e) (w : World) : (sizeOf t).run P w = .ok e.sz w := by
  obtain ⟨i, h1, h2, h3, h4⟩ := h.get
  simp [sizeOf, typeInfo, h1, h2]
theorem run_info {t : TypeId} {e : TE} (h : TEok P t e) (w : World) : ∃ i, (typeInfo t).run P w = .ok i w ∧ i.size = e.sz ∧ i.bytes = e.bytes ∧ i.zero = some e.zval := by
  obtain ⟨i, h1, h2, h3, h4⟩ := h.get
  exact ⟨i, by simp [typeInfo, h1], h2, h3, h4⟩
theorem run_zero {t : TypeId} {e : TE} (h : TEok P t e) (w : World) : (zeroValue t).run P w = .ok e.zval w := by
  obtain ⟨i, h1, h2, h3, h4⟩ := h.get
  simp [zeroValue, typeInfo, h1, h4]
theorem run_agg {t : TypeId} {e : TE} (h : TEok P t e) (w : World) : (isAgg t).run P w = .ok e.ti.agg w := by
  have hu := h.und
  unfold isAgg
  cases ht : e.ti <;> rw [ht] at hu
  case struct fs => obtain ⟨f, h1, _⟩ := hu; simp [run_underlying h1, TI.agg]
  case iface => obtain ⟨ms, h1⟩ := hu; simp [run_underlying h1, TI.agg]
  case other =>
    obtain ⟨d, h1, h2⟩ := hu
    rw [Sem.run_bind, run_underlying h1]
    simp only [Result.andThen_ok]
    cases d <;> simp_all [TI.agg]
  all_goals simp only at hu; simp [run_underlying hu, TI.agg]

theorem addr_add (β o n : Nat) : (⟨β, o, none⟩ : Addr).add n = ⟨β, o + n, none⟩ := by
  unfold Addr.add; split <;> simp_all

theorem cell_at {w : World} {β o : Nat} {c : Array Value} {e : TypeId} {fr : Nat × Nat} (h : w.heap[β]? = some (.cells c e fr)) : w.cell? ⟨β, o, none⟩ = c[o]? := by
  simp [World.cell?, h]
theorem cell_getD {w : World} {β o : Nat} {c : Array Value} {e : TypeId} {fr : Nat × Nat} (h : w.heap[β]? = some (.cells c e fr)) (ho : o < c.size) : w.cell? ⟨β, o, none⟩ = some (c.getD o undef) := by
  rw [cell_at h, Array.getElem?_eq_getElem ho]; simp [ho]

theorem run_cells {w : World} {β o n : Nat} {c : Array Value} {e : TypeId} {fr : Nat × Nat} (h : w.heap[β]? = some (.cells c e fr)) (ho : o + n ≤ c.size) :
    (loadCells ⟨β, o, none⟩ n).run P w = .ok ((List.range n).map fun j => c.getD (o + j) undef).toArray w :=
  run_loadCells w _ n (fun j => c.getD (o + j) undef) fun j hj => by rw [addr_add]; exact cell_getD h (by omega)

theorem run_loadVar {t : TypeId} {te : TE} (ht : TEok P t te) {w : World} {β o : Nat} {c : Array Value} {e : TypeId} {fr : Nat × Nat} (h : w.heap[β]? = some (.cells c e fr)) (ho : o + (if te.ti.agg then te.sz else 1) ≤ c.size) :
    (loadVar t ⟨β, o, none⟩).run P w = .ok (if te.ti.agg then .agg ((List.range te.sz).map fun j => c.getD (o + j) undef).toArray else c.getD o undef) w := by
  unfold loadVar
  rw [Sem.run_bind, run_agg ht]
  simp only [Result.andThen_ok]
  cases ha : te.ti.agg with
  | true =>
    simp only [ha, if_true] at ho ⊢
    rw [Sem.run_bind, run_size ht]
    simp only [Result.andThen_ok]
    rw [Sem.run_bind, run_cells h ho]
    rfl
  | false =>
    simp only [ha, Bool.false_eq_true, if_false] at ho ⊢
    rw [run_load, cell_getD h (by omega)]

/-- A pointer whose variable's cells are known. -/
theorem cellsAt_vr {x : PV} {v : Value} {cs : List PV} (hv : VR w A Γ hp x v) (hr : ∀ k, HR w A Γ hp k) (h : cellsAt hp x = some cs) :
    ∃ β o c e fr, v = .pointer (some ⟨β, o, none⟩) ∧ w.heap[β]? = some (.cells c e fr) ∧ (∀ (j : Nat) (y : PV), cs[j]? = some y → o + j < c.size ∧ VR w A Γ hp y (c.getD (o + j) undef)) := by
  cases x <;> simp only [cellsAt] at h <;> try contradiction
  case fel xs =>
    cases hv with
    | data hv =>
      cases hv with
      | fel _ β o c e fr hA hw hb h' =>
        cases h
        exact ⟨β, o, c, e, fr, rfl, hw, fun j y hy => ⟨hb j y hy, .data (h' j y hy)⟩⟩
  case ref b off =>
    cases hh : hget hp b with
    | none => rw [hh] at h; contradiction
    | some k =>
      rw [hh] at h
      cases k with
      | box q bs =>
        simp only [Option.some.injEq] at h
        subst h
        cases hv with
        | data hv => cases hv
        | ref _ _ _ _ hg h' =>
          obtain ⟨β, h1, h2⟩ := h' q bs hh
          have hk := hr b
          unfold HR at hk
          rw [hh] at hk
          obtain ⟨β', c, fr, h3, h4, h5, h6, h7⟩ := hk
          rw [h1] at h3
          cases h3
          refine ⟨β, off, c, q, fr, h2, h4, fun j y hy => ?_⟩
          rw [List.getElem?_drop] at hy
          have := (List.getElem?_eq_some_iff.1 hy).1
          exact ⟨by omega, h7 _ _ hy⟩
      | row sz xs => contradiction
      | dead => contradiction
  case elt g n i off =>
    cases hh : hget hp g with
    | none => rw [hh] at h; contradiction
    | some k =>
      rw [hh] at h
      cases k with
      | box q bs => contradiction
      | dead => contradiction
      | row sz xs =>
        simp only at h
        split at h
        · rename_i hn
          simp only [Option.some.injEq] at h
          subst h
          cases hv with
          | data hv => cases hv
          | elt _ _ _ _ _ _ hg h' =>
            obtain ⟨_, h'⟩ := h' sz xs hh
            obtain ⟨h1, β, o, cap, h2, h3⟩ := h' hn.1
            have hk := hr g
            unfold HR at hk
            rw [hh] at hk
            obtain ⟨h0, hk⟩ := hk
            rcases hk with ⟨hk1, hk2⟩ | ⟨β', o', cap', c, e, fr, h4, h5, hq, h6, h7, h8, h9, h10⟩
            · rw [h2] at hk2; cases hk2
            · rw [h2] at h4
              cases h4
              refine ⟨β, o + i * sz + off, c, e, fr, h3, h5, fun j y hy => ?_⟩
              rw [List.getElem?_drop] at hy
              have hi : i < xs.length := by omega
              have hx : xs[i]? = some (xs.getD i .junk) := by simp [hi]
              have := (List.getElem?_eq_some_iff.1 hy).1
              have hz := h9 i _ hx
              have e1 : o + i * sz + off + j = o + i * sz + (off + j) := by omega
              have h11 : (i + 1) * sz ≤ cap * sz := Nat.mul_le_mul_right sz (by omega)
              rw [Nat.succ_mul] at h11
              exact ⟨by omega, by rw [e1]; exact .data (h10 i _ (off + j) y hx hy)⟩
        · contradiction

/-- The elements of a slice, in memory. -/
theorem elems_vr {x : PV} {v : Value} {xs : List PV} (hv : VR w A Γ hp x v) (hr : ∀ k, HR w A Γ hp k) (h : elems hp x = some xs) :
    ∃ (a : Option Addr) (cap : Nat), v = .slice a xs.length cap ∧ xs.length ≤ cap ∧ (xs = [] ∨ ∃ β o c e fr sz, a = some ⟨β, o, none⟩ ∧ w.heap[β]? = some (.cells c e fr) ∧ (∀ (i : Nat) (x : PV), xs[i]? = some x → (flat x).length = sz) ∧
      (∀ (i : Nat) (x : PV) (j : Nat) (y : PV), xs[i]? = some x → (flat x)[j]? = some y → o + i * sz + j < c.size ∧ DR w A y (c.getD (o + i * sz + j) undef)) ∧ ((¬ A β) ∨ ∃ g n, (x = .row g n ∨ ∃ lo hi, x = .view g n lo hi) ∧ live hp g ∧ ob (Γ g) = some β)) := by
  cases x <;> simp only [elems] at h <;> try contradiction
  case far ys =>
    cases h
    cases hv with
    | data hv =>
      cases hv with
      | far0 a cap => exact ⟨a, cap, rfl, Nat.zero_le _, .inl rfl⟩
      | far _ β o cap sz c e fr hA hw hc hz hb h' => exact ⟨_, cap, rfl, hc, .inr ⟨β, o, c, e, fr, sz, rfl, hw, hz, fun i x j y hx hy => ⟨hb i x j y hx hy, h' i x j y hx hy⟩, .inl hA⟩⟩
  case nils =>
    cases h
    cases hv with
    | data hv => cases hv; exact ⟨none, 0, rfl, Nat.le_refl _, .inl rfl⟩
  case raw u =>
    cases u <;> (try simp only [elems] at h) <;> (try contradiction)
    rename_i a n cap
    cases n <;> (try simp only [elems] at h) <;> (try contradiction)
    cases h
    cases hv with
    | data hv => cases hv; exact ⟨a, cap, rfl, Nat.zero_le _, .inl rfl⟩
  case row g n =>
    cases hh : hget hp g with
    | none => rw [hh] at h; contradiction
    | some k =>
      rw [hh] at h
      cases k with
      | box q bs => contradiction
      | dead => contradiction
      | row sz ys =>
        simp only at h
        split at h
        · rename_i hn
          cases h
          have hk := hr g
          unfold HR at hk
          rw [hh] at hk
          obtain ⟨h0, hk⟩ := hk
          cases hv with
          | data hv => cases hv
          | row _ _ _ _ hg h' =>
            have hv' := (h' sz xs hh).2 hn
            subst hv'
            rcases hk with ⟨hk1, hk2⟩ | ⟨β, o, cap, c, e, fr, h4, h5, hq, h6, h7, h8, h9, h10⟩
            · exact ⟨none, 0, by rw [hk2, hk1]; rfl, by rw [hk1]; exact Nat.le_refl _, .inl hk1⟩
            · refine ⟨_, cap, h4, h6, .inr ⟨β, o, c, e, fr, sz, rfl, h5, h9, fun i x j y hx hy => ⟨?_, h10 i x j y hx hy⟩, .inr ⟨g, n, .inl rfl, by unfold live; rw [hh]; trivial, by rw [h4]; rfl⟩⟩⟩
              have h1 := (List.getElem?_eq_some_iff.1 hx).1
              have h2 := (List.getElem?_eq_some_iff.1 hy).1
              have hz := h9 i x hx
              have h11 : (i + 1) * sz ≤ cap * sz := Nat.mul_le_mul_right sz (by omega)
              rw [Nat.succ_mul] at h11
              omega
        · contradiction
  case view g n lo hi =>
    cases hh : hget hp g with
    | none => rw [hh] at h; contradiction
    | some k =>
      rw [hh] at h
      cases k with
      | box q bs => contradiction
      | dead => contradiction
      | row sz ys =>
        simp only at h
        split at h
        · rename_i hn
          cases h
          have hk := hr g
          unfold HR at hk
          rw [hh] at hk
          obtain ⟨h0, hk⟩ := hk
          cases hv with
          | data hv => cases hv
          | view _ _ _ _ _ _ hg h' =>
            obtain ⟨hl1, hl2, a, cap, hΓ, rfl⟩ := (h' sz ys hh).2 hn
            have hlen : ((ys.take hi).drop lo).length = hi - lo := by simp; omega
            rcases hk with ⟨hk1, hk2⟩ | ⟨β, o, cap', c, e, fr, h4, h5, hq, h6, h7, h8, h9, h10⟩
            · rw [hk2] at hΓ
              cases hΓ
              subst hk1
              exact ⟨_, _, by rw [hlen], by rw [hlen]; simp at hn; omega, .inl (by simp)⟩
            · rw [h4] at hΓ
              simp only [Value.slice.injEq] at hΓ
              obtain ⟨ha, hln, hcap⟩ := hΓ
              subst ha hcap
              refine ⟨_, _, by rw [hlen], by rw [hlen]; omega, ?_⟩
              by_cases hc : cap' = lo
              · left
                apply List.eq_nil_of_length_eq_zero
                rw [hlen]; omega
              · right
                rw [if_neg hc]
                simp only [Option.map_some, addr_add]
                refine ⟨β, o + lo * sz, c, e, fr, sz, rfl, h5, fun i x hx => ?_, fun i x j y hx hy => ?_, .inr ⟨g, n, .inr ⟨lo, hi, rfl⟩, by unfold live; rw [hh]; trivial, by rw [h4]; rfl⟩⟩
                · rw [List.getElem?_drop, List.getElem?_take] at hx
                  split at hx
                  · exact h9 _ x hx
                  · contradiction
                · rw [List.getElem?_drop, List.getElem?_take] at hx
                  split at hx
                  · have h1 := (List.getElem?_eq_some_iff.1 hx).1
                    have h2 := (List.getElem?_eq_some_iff.1 hy).1
                    have hz := h9 _ x hx
                    have h11 : (lo + i + 1) * sz ≤ cap' * sz := Nat.mul_le_mul_right sz (by omega)
                    rw [Nat.succ_mul, Nat.add_mul] at h11
                    have e1 : o + lo * sz + i * sz + j = o + (lo + i) * sz + j := by rw [Nat.add_mul]; omega
                    exact ⟨by omega, by rw [e1]; exact h10 _ x j y hx hy⟩
                  · contradiction
        · contradiction

end Go.Pv

/- One operation that turns no memory that there is: what the machine does is what the plain values say. -/
namespace Go.Pv
open Go.RowKit

variable {P : Program} {T : Tab} {w0 w w' : World} {Γ0 : Nat → Value} {h0 : Hp} {V M A A' : Bl} {Γ Γ' : Nat → Value} {hp hp' : Hp} {s : St} {a : Act}

/-- The operation yields the value, in a memory that has turned so. -/
def Yield (P : Program) (V : Bl) (Γ : Nat → Value) (hp : Hp) (a : Act) (w : World) (o : Oper) (v : PV) (c : Hp) : Prop :=
  ∃ vv w' Γ', (execOp a.eval o).run P w = .ok (.value vv) w' ∧ Chg V Γ Γ' hp (c ++ hp) w w' ∧ VR w' (Av V Γ' (c ++ hp)) Γ' (c ++ hp) v vv

theorem Yield.pure (R : RelG w0 V M Γ0 h0 Γ s a w) {o : Oper} {x : PV} {v : Value} (h : (execOp a.eval o).run P w = .ok (.value v) w) (hv : VR w (Av V Γ s.hp) Γ s.hp x v) : Yield P V Γ s.hp a w o x [] :=
  ⟨v, w, Γ, h, Chg.same R rfl rfl rfl rfl, hv⟩

theorem vr_bool {b : Bool} {v : Value} (h : VR w A Γ hp (.bool b) v) : v = .bool b := by
  cases h with | data h => cases h; rfl
theorem vr_int {k : IntKind} {n : Int} {v : Value} (h : VR w A Γ hp (.int k n) v) : v = .int k n := by
  cases h with | data h => cases h; rfl
theorem vr_str {b : ByteArray} {v : Value} (h : VR w A Γ hp (.str b) v) : v = .string b := by
  cases h with | data h => cases h; rfl
theorem vr_agg {xs : List PV} {v : Value} (h : VR w A Γ hp (.agg xs) v) : ∃ cs, v = .agg cs ∧ cs.size = xs.length ∧ ∀ (i : Nat) (x : PV), xs[i]? = some x → VR w A Γ hp x (cs.getD i undef) := by
  cases h with
  | data h => cases h with | agg _ cs hl h => exact ⟨cs, rfl, hl, fun i x hx => .data (h i x hx)⟩
  | agg _ cs hl h => exact ⟨cs, rfl, hl, h⟩
theorem vr_tup {xs : List PV} {v : Value} (h : VR w A Γ hp (.tup xs) v) : ∃ cs, v = .tuple cs ∧ cs.size = xs.length ∧ ∀ (i : Nat) (x : PV), xs[i]? = some x → VR w A Γ hp x (cs.getD i undef) := by
  cases h with
  | data h => cases h with | tup _ cs hl h => exact ⟨cs, rfl, hl, fun i x hx => .data (h i x hx)⟩
  | tup _ cs hl h => exact ⟨cs, rfl, hl, h⟩

theorem one_cells {v : Value} (h : v.oneCell' = true) : v.cells = #[v] := by cases v <;> first | rfl | simp [Value.oneCell'] at h

/-- The cells of a value of which all cells are known to be single. -/
theorem vr_flat {x : PV} {v : Value} (h : VR w A Γ hp x v) (hc : okPart x = true) : v.cells.size = (flat x).length ∧ ∀ (i : Nat) (y : PV), (flat x)[i]? = some y → VR w A Γ hp y (v.cells.getD i undef) := by
  cases x
  case agg xs =>
    obtain ⟨cs, rfl, h1, h2⟩ := vr_agg h
    exact ⟨h1, h2⟩
  all_goals
    simp only [okPart, cell1, Bool.false_eq_true] at hc
    try contradiction
  case raw u =>
    cases h with
    | data h =>
      cases h
      have hu : v.cells = #[v] := by cases v <;> first | rfl | simp [Value.oneCell'] at hc
      rw [hu]
      refine ⟨rfl, fun i y hy => ?_⟩
      cases i with
      | zero => cases hy; exact .data (.raw _)
      | succ i => simp [flat] at hy
  all_goals
    have hv : v.cells = #[v] := by
      cases h
      all_goals first
        | rfl
        | exact one_cells ‹_›
        | (cases ‹DR _ _ _ _› <;> rfl)
    rw [hv]
    refine ⟨rfl, fun i y hy => ?_⟩
    cases i with
    | zero => cases hy; exact h
    | succ i => simp [flat] at hy

theorem Yield.box (R : RelG w0 V M Γ0 h0 Γ s a w) {o : Oper} {key : Nat} {x : List PV} {c : Array Value} {t : TypeId}
    (hrun : (execOp a.eval o).run P w = .ok (.value (.pointer (some ⟨w.heap.size, 0, none⟩))) (w.alloc (.cells c t))) (hl : c.size = x.length)
    (hx : ∀ (i : Nat) (y : PV), x[i]? = some y → VR w (Av V Γ s.hp) Γ s.hp y (c.getD i undef)) (hk : hget s.hp key = none) : Yield P V Γ s.hp a w o (.ref key 0) [(key, .box t x)] := by
  have he : hget ([(key, HC.box t x)] ++ s.hp) key = some (.box t x) := by simp [hget]
  obtain ⟨Γ', C, e⟩ := Chg.make (c := .box t x) (v := .pointer (some ⟨w.heap.size, 0, none⟩)) (w' := w.alloc (.cells c t)) R hk (cs := c) (e := t) (fr := (0, 0)) rfl rfl rfl rfl (.inl rfl)
    (fun Γ' e lift _ => by
      unfold HR
      rw [he]
      exact ⟨w.heap.size, c, (0, 0), e, heap_alloc_new w _, hl, fun i h1 h2 h3 => by omega, fun j y hy => lift _ _ (hx j y hy)⟩)
  exact ⟨_, _, Γ', hrun, C, .ref key 0 _ rfl (by rw [he]; simp) (fun _ cs _ => ⟨w.heap.size, e, rfl⟩)⟩

theorem Yield.row (R : RelG w0 V M Γ0 h0 Γ s a w) {o : Oper} {key cap : Nat} {sz : Sz} {x : List PV} {c : Array Value} {t : TypeId} {fr : Nat × Nat} {w' : World}
    (hrun : (execOp a.eval o).run P w = .ok (.value (.slice (some ⟨w.heap.size, 0, none⟩) x.length cap)) w') (hh : w'.heap = w.heap.push (.cells c t fr)) (ho : w'.os = w.os) (ht : w'.tape = w.tape) (hu : w'.output = w.output)
    (h0 : 0 < sz.sz) (hcap : x.length ≤ cap) (hc : cap * sz.sz ≤ c.size) (hf : Clean fr 0 (cap * sz.sz)) (hz : ∀ (i : Nat) (y : PV), x[i]? = some y → (flat y).length = sz.sz)
    (hx : ∀ (i : Nat) (y : PV) (j : Nat) (z : PV), x[i]? = some y → (flat y)[j]? = some z → DR w (Av V Γ s.hp) z (c.getD (i * sz.sz + j) undef)) (hk : hget s.hp key = none) (hq : sz.q = 0 ∨ t = sz.q := by exact .inl rfl) (hs1 : sz.sz = 1 ∨ ¬ (fr.1 ≤ c.size ∧ c.size < fr.2) := by first | exact .inr (fun h => absurd h.2 (Nat.not_lt_zero _)) | exact .inl rfl) : Yield P V Γ s.hp a w o (.row key x.length) [(key, .row sz x)] := by
  have he : hget ([(key, HC.row sz x)] ++ s.hp) key = some (.row sz x) := by simp [hget]
  obtain ⟨Γ', C, e⟩ := Chg.make (c := .row sz x) (v := .slice (some ⟨w.heap.size, 0, none⟩) x.length cap) (w' := w') R hk (cs := c) (e := t) (fr := fr) hh ho ht hu (.inl rfl)
    (fun Γ' e _ lift => by
      unfold HR
      rw [he]
      exact ⟨h0, .inr ⟨w.heap.size, 0, cap, c, t, fr, e, by rw [hh]; simp, ⟨hq.imp id fun h => ⟨h, rfl⟩, hs1⟩, hcap, by omega, by rw [Nat.zero_add]; exact hf, hz, fun i y j z hy hz' => by rw [Nat.zero_add]; exact lift _ _ (hx i y j z hy hz')⟩⟩)
  exact ⟨_, _, Γ', hrun, C, .row key x.length _ rfl (by rw [he]; simp) (fun sz' xs h => by rw [he] at h; cases h; exact ⟨Nat.le_refl _, fun _ => e.symm⟩)⟩

end Go.Pv

/- One operation that turns no memory that there is: the single kinds. -/
namespace Go.Pv
open Go.RowKit

variable {P : Program} {T : Tab} {w0 w w' : World} {Γ0 : Nat → Value} {h0 : Hp} {V M A A' : Bl} {Γ Γ' : Nat → Value} {hp hp' : Hp} {s : St} {a : Act}

theorem beq_str (a b : ByteArray) : (a.toList == b.toList) = decide (a = b) := by
  rw [ByteArray.toList_eq, ByteArray.toList_eq, Bool.eq_iff_iff]
  simp only [beq_iff_eq, decide_eq_true_eq]
  refine ⟨fun h => ?_, fun h => h ▸ rfl⟩
  cases a; cases b
  simp only at h
  rw [Array.ext' h]

theorem guard_int (op : BinOp) (t : TypeId) (x y : Operand) (k k' : IntKind) (a b : Int) : (eqGuard op t x y (.int k a) (.int k' b)).run P w = .ok () w := by
  unfold eqGuard; cases op <;> rfl
theorem guard_str (op : BinOp) (t : TypeId) (x y : Operand) (a b : ByteArray) : (eqGuard op t x y (.string a) (.string b)).run P w = .ok () w := by
  unfold eqGuard; cases op <;> rfl
theorem guard_bool (op : BinOp) (t : TypeId) (x y : Operand) (a b : Bool) : (eqGuard op t x y (.bool a) (.bool b)).run P w = .ok () w := by
  unfold eqGuard; cases op <;> rfl

theorem isBoolT_spec (hT : Tok P T) {t : TypeId} (h : isBoolT T t = true) : P.underlying t = some .bool := by
  unfold isBoolT at h
  cases ht : T t with
  | none => rw [ht] at h; contradiction
  | some te =>
    rw [ht] at h
    have hu := (hT t te ht).und
    obtain ⟨ti, sz, by_, z⟩ := te
    cases ti <;> simp only [Bool.false_eq_true] at h hu
    exact hu

theorem int_beq (n m : Int) : (n == m) = decide (n = m) := by rw [Bool.eq_iff_iff]; simp

theorem bin_sound (hT : Tok P T) {op : BinOp} {t : TypeId} {x y : PV} {xo yo : Operand} {vx vy : Value} {K : PV → Prop} (h : bin (isBoolT T t) op x y K) (hx : VR w A Γ hp x vx) (hy : VR w A Γ hp y vy) :
    ∃ v vv, K v ∧ DR w A v vv ∧ (do eqGuard op t xo yo vx vy; binOp op t vx vy : Sem Value).run P w = .ok vv w := by
  cases x <;> cases y <;> simp only [bin] at h
  case bool.bool a b =>
    cases vr_bool hx; cases vr_bool hy
    cases op <;> simp only at h
    all_goals
      refine ⟨_, _, h.2, .bool _, ?_⟩
      rw [Sem.run_bind, guard_bool]
      simp only [Result.andThen_ok]
      first
        | exact run_eql_bool w t _ _ (isBoolT_spec hT h.1)
        | exact run_neq_bool w t _ _ (isBoolT_spec hT h.1)
  case str.str a b =>
    cases vr_str hx; cases vr_str hy
    cases op <;> simp only at h
    case add =>
      refine ⟨_, _, h.2, .str _, ?_⟩
      rw [Sem.run_bind, guard_str]
      simp only [Result.andThen_ok, binOp]
      exact run_string_add_sum _ _ _ h.1
    all_goals
      refine ⟨_, _, h, .bool _, ?_⟩
      rw [Sem.run_bind, guard_str]
      simp [binOp, Op.stringOp, beq_str]
  case int.int k n k' m =>
    cases vr_int hx; cases vr_int hy
    cases op <;> simp only at h
    case shl => refine ⟨_, _, h.2, .int _ _, ?_⟩; rw [Sem.run_bind, guard_int]; simp [binOp, Op.shift, Int.not_lt.2 h.1]
    case shr => refine ⟨_, _, h.2, .int _ _, ?_⟩; rw [Sem.run_bind, guard_int]; simp [binOp, Op.shift, Int.not_lt.2 h.1]
    case quo => obtain ⟨rfl, h0, h⟩ := h; refine ⟨_, _, h, .int _ _, ?_⟩; rw [Sem.run_bind, guard_int]; simp [binOp, Op.intDiv, h0]
    case rem => obtain ⟨rfl, h0, h⟩ := h; refine ⟨_, _, h, .int _ _, ?_⟩; rw [Sem.run_bind, guard_int]; simp [binOp, Op.intDiv, h0]
    case add => obtain ⟨rfl, h⟩ := h; refine ⟨_, _, h, .int _ _, ?_⟩; rw [Sem.run_bind, guard_int]; simp [binOp, Op.intArith]
    case sub => obtain ⟨rfl, h⟩ := h; refine ⟨_, _, h, .int _ _, ?_⟩; rw [Sem.run_bind, guard_int]; simp [binOp, Op.intArith]
    case mul => obtain ⟨rfl, h⟩ := h; refine ⟨_, _, h, .int _ _, ?_⟩; rw [Sem.run_bind, guard_int]; simp [binOp, Op.intArith]
    case and => obtain ⟨rfl, h⟩ := h; refine ⟨_, _, h, .int _ _, ?_⟩; rw [Sem.run_bind, guard_int]; simp [binOp, intBits_and]
    case or => obtain ⟨rfl, h⟩ := h; refine ⟨_, _, h, .int _ _, ?_⟩; rw [Sem.run_bind, guard_int]; simp [binOp, intBits_or]
    case xor => obtain ⟨rfl, h⟩ := h; refine ⟨_, _, h, .int _ _, ?_⟩; rw [Sem.run_bind, guard_int]; simp [binOp, intBits_xor]
    case andNot => obtain ⟨rfl, h⟩ := h; refine ⟨_, _, h, .int _ _, ?_⟩; rw [Sem.run_bind, guard_int]; simp [binOp, intBits_andNot]
    all_goals
      obtain ⟨rfl, h⟩ := h
      refine ⟨_, _, h, .bool _, ?_⟩
      rw [Sem.run_bind, guard_int]
      simp [binOp, Op.intCmp, int_beq, bne]

theorem run_bound {k : IntKind} {n : Int} {y : Nat} {code : BoundsCode} (h0 : 0 ≤ n) (h1 : n ≤ y) : (Instr.sliceBound (.int k n) y code).run P w = .ok n.toNat w := by
  simp [Instr.sliceBound, asIntOf, h0, h1]

theorem bounds_sound {isS : Bool} {len cap : Nat} {lo hi : Option Operand} {ρ : Operand → PV} {σ : Operand → Value} {K : Nat → Nat → Prop} (hρ : ∀ x, VR w A Γ hp (ρ x) (σ x)) (hc : len ≤ cap) (h : bounds len (lo.map ρ) (hi.map ρ) K) :
    ∃ l h, K l h ∧ l ≤ h ∧ h ≤ len ∧ (Instr.sliceBounds isS len cap (lo.map σ) (hi.map σ) none).run P w = .ok (l, h, cap) w := by
  cases lo with
  | none =>
    cases hi with
    | none => exact ⟨0, len, h, Nat.zero_le _, Nat.le_refl _, by simp [Instr.sliceBounds]⟩
    | some hi =>
      have hv := hρ hi
      simp only [Option.map_none, Option.map_some, bounds] at h
      cases hh : ρ hi with
      | int k n =>
        rw [hh] at h hv
        obtain ⟨h1, h2, h3⟩ := h
        refine ⟨0, n.toNat, h3, Nat.zero_le _, by omega, ?_⟩
        simp only [Instr.sliceBounds, Option.map_none, Option.map_some, vr_int hv, Sem.run_bind, Sem.run_pure, Result.andThen_ok]
        rw [run_bound h1 (by omega)]
        rfl
      | _ => rw [hh] at h; contradiction
  | some lo =>
    have hv := hρ lo
    cases hl : ρ lo with
    | int k n =>
      rw [hl] at hv
      cases hi with
      | none =>
        simp only [Option.map_none, Option.map_some, bounds, hl] at h
        obtain ⟨h1, h2, h3⟩ := h
        refine ⟨n.toNat, len, h3, by omega, Nat.le_refl _, ?_⟩
        simp only [Instr.sliceBounds, Option.map_none, Option.map_some, vr_int hv, Sem.run_bind, Sem.run_pure, Result.andThen_ok]
        rw [run_bound h1 (by omega)]
        rfl
      | some hi =>
        have hv' := hρ hi
        cases hh : ρ hi with
        | int k' m =>
          rw [hh] at hv'
          simp only [Option.map_some, bounds, hl, hh] at h
          obtain ⟨h1, h2, h3, h4⟩ := h
          refine ⟨n.toNat, m.toNat, h4, by omega, by omega, ?_⟩
          simp only [Instr.sliceBounds, Option.map_some, vr_int hv, vr_int hv', Sem.run_bind, Sem.run_pure, Result.andThen_ok]
          rw [run_bound (by omega) (by omega)]
          simp only [Result.andThen_ok]
          rw [run_bound h1 (by omega)]
          rfl
        | _ => simp only [Option.map_some, bounds, hl, hh] at h
    | _ =>
      cases hi <;> simp only [Option.map_none, Option.map_some, bounds, hl] at h

theorem alloc_cells {e : TE} {t : TypeId} (h : TEok P t e) : e.zval.cells.size = e.zero.length ∧ (∀ (i : Nat) (x : PV), e.zero[i]? = some x → DR w A x (e.zval.cells.getD i undef)) := by
  obtain ⟨h1, h2⟩ := h.zero
  have hd : ∀ x ∈ e.zero, DR w A x (toV x) ∧ (toV x).oneCell' = true := fun x hx => by
    have := h2 x hx
    cases x <;> simp only [Bool.false_eq_true] at this
    · exact ⟨.bool _, rfl⟩
    · exact ⟨.int _ _, rfl⟩
    · exact ⟨.str _, rfl⟩
    · exact ⟨.raw _, this⟩
    · exact ⟨.nilp, rfl⟩
    · exact ⟨.nils, rfl⟩
  unfold TE.zval
  split
  · refine ⟨by simp [Value.cells], fun i x hx => ?_⟩
    have he : ((e.zero.map toV).toArray).getD i undef = toV x := getD_eq (by simp [hx])
    rw [show (Value.agg (e.zero.map toV).toArray).cells = (e.zero.map toV).toArray from rfl, he]
    exact (hd x (List.mem_of_getElem? hx)).1
  · rename_i ha
    have h3 := h.one (by simpa using ha)
    rw [h3] at h1
    match hz : e.zero, h1 with
    | [x], _ =>
      have hx := hd x (by rw [hz]; exact List.mem_cons_self)
      rw [show ([x].getD 0 PV.junk) = x from rfl, one_cells hx.2]
      refine ⟨rfl, fun i y hy => ?_⟩
      cases i with
      | zero => cases hy; exact hx.1
      | succ i => simp at hy

theorem foldl_set (off : Nat) : ∀ (l : List Value) (k : Nat) (c : Array Value), off + k + l.length ≤ c.size →
    ((l.zipIdx k).foldl (fun cs (p : Value × Nat) => cs.setIfInBounds (off + p.2) p.1) c).size = c.size ∧
    ∀ j, ((l.zipIdx k).foldl (fun cs (p : Value × Nat) => cs.setIfInBounds (off + p.2) p.1) c).getD j undef = if off + k ≤ j ∧ j < off + k + l.length then l.getD (j - (off + k)) undef else c.getD j undef
  | [], k, c, h => ⟨rfl, fun j => by rw [if_neg (by simp only [List.length_nil]; omega)]; rfl⟩
  | v :: l, k, c, h => by
    simp only [List.length_cons] at h
    obtain ⟨h1, h2⟩ := foldl_set off l (k + 1) (c.setIfInBounds (off + k) v) (by rw [Array.size_setIfInBounds]; omega)
    simp only [List.zipIdx_cons, List.foldl_cons]
    refine ⟨by rw [h1, Array.size_setIfInBounds], fun j => ?_⟩
    rw [h2 j]
    by_cases e : j = off + k
    · subst e
      rw [if_neg (by omega), if_pos (by simp only [List.length_cons]; omega), Nat.sub_self]
      simp only [Array.getD_eq_getD_getElem?]
      rw [Array.getElem?_setIfInBounds_self_of_lt (by omega)]
      rfl
    · by_cases e2 : off + k ≤ j ∧ j < off + k + (v :: l).length
      · simp only [List.length_cons] at e2
        rw [if_pos (by omega), if_pos (by simp only [List.length_cons]; omega)]
        rw [show j - (off + k) = (j - (off + (k + 1))) + 1 by omega]
        rfl
      · simp only [List.length_cons] at e2
        rw [if_neg (by omega), if_neg (by simp only [List.length_cons]; omega)]
        simp only [Array.getD_eq_getD_getElem?]
        rw [Array.getElem?_setIfInBounds_ne (by omega)]

theorem splice_get {cs vs : List PV} {off j : Nat} {y : PV} (h : off + vs.length ≤ cs.length) (hy : (splice cs off vs)[j]? = some y) : if off ≤ j ∧ j < off + vs.length then vs[j - off]? = some y else cs[j]? = some y := by
  unfold splice at hy
  by_cases h1 : j < off
  · rw [if_neg (by omega), ← hy, List.append_assoc, List.getElem?_append_left (by simp; omega), List.getElem?_take, if_pos h1]
  · by_cases h2 : j < off + vs.length
    · rw [if_pos (by omega), ← hy, List.append_assoc, List.getElem?_append_right (by simp; omega), List.getElem?_append_left (by simp; omega)]
      congr 1; simp; omega
    · rw [if_neg (by omega), ← hy, List.getElem?_append_right (by simp; omega), List.getElem?_drop]
      congr 1; simp; omega

theorem set_cells {cs vs : List PV} {c : Array Value} {v : Array Value} {off : Nat} {R : PV → Value → Prop} (h : off + vs.length ≤ cs.length) (hl : c.size = cs.length) (hv : v.size = vs.length) (h1 : ∀ (i : Nat) (x : PV), cs[i]? = some x → R x (c.getD i undef)) (h2 : ∀ (i : Nat) (x : PV), vs[i]? = some x → R x (v.getD i undef)) :
    (v.zipIdx.foldl (fun cs (p : Value × Nat) => cs.setIfInBounds (off + p.2) p.1) c).size = (splice cs off vs).length ∧ ∀ (i : Nat) (x : PV), (splice cs off vs)[i]? = some x → R x ((v.zipIdx.foldl (fun cs (p : Value × Nat) => cs.setIfInBounds (off + p.2) p.1) c).getD i undef) := by
  have hvl : v.toList.length = vs.length := by simpa using hv
  obtain ⟨h3, h4⟩ := foldl_set off v.toList 0 c (by rw [hvl]; omega)
  rw [← Array.foldl_toList, Array.toList_zipIdx]
  refine ⟨by rw [h3]; simp [splice]; omega, fun i x hx => ?_⟩
  rw [h4 i]
  have hs := splice_get h hx
  by_cases e : off ≤ i ∧ i < off + vs.length
  · rw [if_pos e] at hs
    rw [if_pos (by omega)]
    have := h2 _ _ hs
    rwa [Array.getD_eq_getD_getElem?, ← Array.getElem?_toList, ← List.getD_eq_getElem?_getD] at this
  · rw [if_neg e] at hs
    rw [if_neg (by omega)]
    exact h1 _ _ hs

theorem vr_iface {x : PV} {v : Value} (hx : VR w A Γ hp x v) (h : x = .raw .nilIface ∨ (∃ t u, x = .raw (.iface t u)) ∨ ∃ t, x = .ifc t) : (x = .raw .nilIface → v = .nilIface) ∧ (x ≠ .raw .nilIface → ∃ t u, v = .iface t u) := by
  rcases h with rfl | ⟨t, u, rfl⟩ | ⟨t, rfl⟩ <;> cases hx with
    | data hx => cases hx <;> first
      | exact ⟨fun _ => rfl, fun h => absurd rfl h⟩
      | exact ⟨fun h => (by cases h), fun _ => ⟨_, _, rfl⟩⟩
theorem ifn_sound (hT : Tok P T) {op : BinOp} {t : TypeId} {x : PV} {xo yo : Operand} {vx : Value} {K : PV → Prop} (hn : isNil yo = true) (h : ifn (isIf T t) op x K) (hx : VR w A Γ hp x vx) :
    ∃ v vv, K v ∧ DR w A v vv ∧ (do eqGuard op t xo yo vx .nilIface; binOp op t vx .nilIface : Sem Value).run P w = .ok vv w := by
  obtain rfl : yo = .const .nilIface := by
    unfold isNil at hn
    split at hn
    · rfl
    · cases hn
  have ht : isIf T t = true := by
    unfold ifn at h
    split at h <;> first | assumption | exact h.elim
  obtain ⟨ms, hu⟩ : ∃ ms, P.underlying t = some (.interface ms) := by
    unfold isIf at ht
    split at ht
    · rename_i h1; exact (hT t _ h1).und
    · cases ht
  have nn : ∀ d : Nat, (Op.equalIn (d + 1) t .nilIface .nilIface).run P w = .ok true w := fun d => by simp [Op.equalIn, run_underlying hu]
  have nv : ∀ (d : Nat) (tp : TypeId) (v : Value), (Op.equalIn (d + 1) t (.iface tp v) .nilIface).run P w = .ok false w := fun d tp v => by simp [Op.equalIn, run_underlying hu]
  have gn : (eqGuard op t xo (.const .nilIface) .nilIface .nilIface).run P w = .ok () w := by
    unfold eqGuard
    cases op <;> simp
  have gv : ∀ (tp : TypeId) (v : Value), (eqGuard op t xo (.const .nilIface) (.iface tp v) .nilIface).run P w = .ok () w := fun tp v => by
    unfold eqGuard
    cases op <;> rfl
  have fin : ∀ b : Bool, sbk op K (some b) → (∀ d : Nat, (Op.equalIn (d + 1) t vx .nilIface).run P w = .ok b w) → (eqGuard op t xo (.const .nilIface) vx .nilIface).run P w = .ok () w → (∀ k n, vx ≠ .int k n) →
      ∃ v vv, K v ∧ DR w A v vv ∧ (do eqGuard op t xo (.const .nilIface) vx .nilIface; binOp op t vx .nilIface : Sem Value).run P w = .ok vv w := fun b hb he hg hi => by
    cases op <;> simp only [sbk] at hb <;> first
      | exact hb.elim
      | (refine ⟨_, _, hb, .bool _, ?_⟩
         rw [Sem.run_bind, hg]
         simp only [Result.andThen_ok, binOp]
         simp [Op.equal, Op.maxDepth, he 9999])
  unfold ifn at h
  split at h
  · obtain rfl := (vr_iface hx (.inl rfl)).1 rfl
    exact fin true h nn gn (fun _ _ e => by cases e)
  · obtain ⟨tp, u, rfl⟩ := (vr_iface hx (.inr (.inl ⟨_, _, rfl⟩))).2 (by simp)
    exact fin false h (fun d => nv d tp u) (gv tp u) (fun _ _ e => by cases e)
  · obtain ⟨tp, u, rfl⟩ := (vr_iface hx (.inr (.inr ⟨_, rfl⟩))).2 (by simp)
    exact fin false h (fun d => nv d tp u) (gv tp u) (fun _ _ e => by cases e)
  · exact h.elim
theorem part_one {t : TypeId} {xs : Array Value} {off : Nat} (hp : P.underlying t = some .bool ∨ (∃ k, P.underlying t = some (.int k)) ∨ P.underlying t = some .string) (h : off < xs.size) : (part t xs off).run P w = .ok (xs.getD off undef) w := by
  have e : xs[off]? = some (xs.getD off undef) := by rw [Array.getD_eq_getD_getElem?, Array.getElem?_eq_getElem h]; rfl
  unfold part isAgg
  rcases hp with hp | ⟨k, hp⟩ | hp <;> simp only [Sem.run_bind, run_underlying hp, Result.andThen_ok, Sem.run_pure, Bool.false_eq_true, if_false, e]
theorem fcmp1_sound (hT : Tok P T) {t : TypeId} {x y : PV} {vx vy : Value} {r : Bool} (d : Nat) (h : fcmp1 (T t) x y = some r) (hx : VR w A Γ hp x vx) (hy : VR w A Γ hp y vy) :
    (P.underlying t = some .bool ∨ (∃ k, P.underlying t = some (.int k)) ∨ P.underlying t = some .string) ∧ (Op.equalIn (d + 1) t vx vy).run P w = .ok r w := by
  cases ht : T t with
  | none => rw [ht] at h; cases h
  | some te =>
    have hu := (hT t te ht).und
    rw [ht] at h
    obtain ⟨ti, sz, by', z⟩ := te
    cases ti <;> cases x <;> try (cases h; done)
    all_goals cases y <;> try (cases h; done)
    case bool.bool.bool a b =>
      cases vr_bool hx; cases vr_bool hy; cases h
      exact ⟨.inl hu, run_equalIn_bool' w d t a b hu⟩
    case int.int.int k k1 a k2 b =>
      simp only [fcmp1] at h
      split at h
      · rename_i e
        subst e
        cases vr_int hx; cases vr_int hy; cases h
        exact ⟨.inr (.inl ⟨k, hu⟩), by rw [run_equalIn_int w d t k1 k a b hu, int_beq]⟩
      · cases h
    case str.str.str a b =>
      cases vr_str hx; cases vr_str hy; cases h
      exact ⟨.inr (.inr hu), by rw [run_equalIn_string w d t a b hu, beq_str]⟩
theorem fand_some {a b : Option Bool} {r : Bool} (h : fand a b = some r) : ∃ p q, a = some p ∧ b = some q ∧ r = (p && q) := by
  cases a <;> cases b <;> simp only [fand] at h <;> cases h
  exact ⟨_, _, rfl, rfl, rfl⟩
theorem fcmp_sound (hT : Tok P T) (d : Nat) {cx cy : Array Value} : ∀ {fs : List (Nat × TypeId)} {i : Nat} {xs ys : List PV} {r : Bool} {fields : List Field}, fcmp T fs i xs ys = some r → fields.map (fun f => (f.offset, f.type)) = fs → (∀ f ∈ fields, f.name ≠ "_") →
    i + xs.length ≤ cx.size → i + ys.length ≤ cy.size → (∀ (j : Nat) (x : PV), xs[j]? = some x → VR w A Γ hp x (cx.getD (i + j) undef)) → (∀ (j : Nat) (y : PV), ys[j]? = some y → VR w A Γ hp y (cy.getD (i + j) undef)) →
    (Op.eqFields (d + 1) cx cy fields).run P w = .ok r w
  | [], i, [], [], r, fields, h, hf, _, _, _, _, _ => by
    cases h
    obtain rfl : fields = [] := by cases fields with | nil => rfl | cons _ _ => simp at hf
    simp [Op.eqFields]
  | (off, ft) :: fs, i, x :: xs, y :: ys, r, fields, h, hf, hn, hcx, hcy, hx, hy => by
    simp only [fcmp] at h
    split at h
    · rename_i e
      obtain ⟨p, q, h1, h2, rfl⟩ := fand_some h
      cases fields with
      | nil => simp at hf
      | cons f fields =>
        simp only [List.map_cons, List.cons.injEq, Prod.mk.injEq] at hf
        obtain ⟨⟨e1, e2⟩, hf⟩ := hf
        rw [List.length_cons] at hcx hcy
        have hx0 := hx 0 x rfl
        have hy0 := hy 0 y rfl
        rw [Nat.add_zero] at hx0 hy0
        rw [← e2] at h1
        obtain ⟨k1, k2⟩ := fcmp1_sound (w := w) hT d h1 hx0 hy0
        have ih := fcmp_sound (cx := cx) (cy := cy) hT d (i := i + 1) (xs := xs) (ys := ys) (fields := fields) h2 hf (fun g hg => hn g (List.mem_cons_of_mem _ hg)) (by omega) (by omega)
          (fun j z hz => by have := hx (j + 1) z hz; rwa [show i + (j + 1) = i + 1 + j by omega] at this) (fun j z hz => by have := hy (j + 1) z hz; rwa [show i + (j + 1) = i + 1 + j by omega] at this)
        have hnm : f.name ≠ "_" := hn f List.mem_cons_self
        have e3 : f.offset = i := e1.trans e
        simp only [Op.eqFields, if_pos hnm, Sem.run_bind, e3, part_one k1 (show i < cx.size by omega), part_one k1 (show i < cy.size by omega), k2, Result.andThen_ok]
        cases p
        · simp
        · simpa using ih
    · cases h
  | [], _, [], _ :: _, _, _, h, _, _, _, _, _, _ => by cases h
  | [], _, _ :: _, _, _, _, h, _, _, _, _, _, _ => by cases h
  | _ :: _, _, [], _, _, _, h, _, _, _, _, _, _ => by cases h
  | _ :: _, _, _ :: _, [], _, _, h, _, _, _, _, _, _ => by cases h
theorem bin2_sound (hT : Tok P T) {op : BinOp} {t : TypeId} {x y : PV} {xo yo : Operand} {vx vy : Value} {K : PV → Prop} (h : bin2 T t op x y K) (hx : VR w A Γ hp x vx) (hy : VR w A Γ hp y vy) :
    ∃ v vv, K v ∧ DR w A v vv ∧ (do eqGuard op t xo yo vx vy; binOp op t vx vy : Sem Value).run P w = .ok vv w := by
  unfold bin2 at h
  split at h
  · rename_i xs ys
    cases ht : T t with
    | none => rw [ht] at h; exact h.elim
    | some te =>
      have ok := hT t te ht
      rw [ht] at h
      obtain ⟨ti, sz, by', z⟩ := te
      cases ti <;> try exact h.elim
      rename_i fs
      obtain ⟨hfl, h⟩ := h
      have he := ok.eqs hfl
      have hu := ok.und
      simp only at hu
      obtain ⟨fields, hu1, hu2⟩ := hu
      unfold eqOkB at he
      rw [hu1] at he
      simp only [Bool.and_eq_true, Bool.not_eq_true', List.all_eq_true] at he
      obtain ⟨⟨hnm, hst⟩, hgd⟩ := he
      have hnm' : ∀ f ∈ fields.toList, f.name ≠ "_" := fun f hf => by simpa using hnm f hf
      have hfm : fields.toList.map (fun f => (f.offset, f.type)) = fs := by
        have := congrArg (List.map fun p : Nat × TypeId × Bool => (p.1, p.2.1)) hu2
        simpa [List.map_map, Function.comp_def] using this
      obtain ⟨cx, rfl, hx1, hx2⟩ := vr_agg hx
      obtain ⟨cy, rfl, hy1, hy2⟩ := vr_agg hy
      have hfo : P.fieldsOf t = fields := by simp [Program.fieldsOf, hu1]
      cases hc : fcmp T fs 0 xs ys with
      | none => rw [hc] at h; exact h.elim
      | some r =>
        rw [hc] at h
        have k := fcmp_sound (w := w) (cx := cx) (cy := cy) hT 9998 hc hfm hnm' (by omega) (by omega) (fun j x hj => by rw [Nat.zero_add]; exact hx2 j x hj) (fun j x hj => by rw [Nat.zero_add]; exact hy2 j x hj)
        have k2 : (Op.equalIn 10000 t (.agg cx) (.agg cy)).run P w = .ok r w := by
          rw [show (10000 : Nat) = 9999 + 1 from rfl, run_equalIn_struct (P := P) w 9999 t cx cy (by rw [hfo]; exact hu1) hst, hfo]
          exact k
        cases op <;> simp only [sbk] at h <;> try exact h.elim
        · refine ⟨_, _, h, .bool _, ?_⟩
          rw [Sem.run_bind, run_eqGuard_agg (P := P) w _ t xo yo cx cy hgd]
          simp only [Result.andThen_ok]
          rw [run_eql_struct (P := P) w t cx cy, k2]; rfl
        · refine ⟨_, _, h, .bool _, ?_⟩
          rw [Sem.run_bind, run_eqGuard_agg (P := P) w _ t xo yo cx cy hgd]
          simp only [Result.andThen_ok]
          rw [run_neq_struct (P := P) w t cx cy, k2]; rfl
  · obtain ⟨hs, h⟩ := h
    obtain ⟨e, hu⟩ : ∃ e, P.underlying t = some (.slice e) := by
      unfold isS1 at hs
      split at hs
      · rename_i h1; exact ⟨_, (hT t _ h1).und⟩
      · cases hs
    have hy' : vy = .slice none 0 0 := by cases hy with | data hy => cases hy; rfl
    subst hy'
    have fin : ∀ b : Bool, sbk op K (some b) → (∃ a n c, vx = .slice a n c ∧ b = a.isNone) →
        ∃ v vv, K v ∧ DR w A v vv ∧ (do eqGuard op t xo yo vx (.slice none 0 0); binOp op t vx (.slice none 0 0) : Sem Value).run P w = .ok vv w := fun b hb ⟨a, n, c, hv, he⟩ => by
      subst hv
      have k : ∀ d : Nat, (Op.equalIn (d + 1) t (.slice a n c) (.slice none 0 0)).run P w = .ok b w := fun d => by
        cases a <;> simp [Op.equalIn, run_underlying hu, he]
      have g : (eqGuard op t xo yo (.slice a n c) (.slice none 0 0)).run P w = .ok () w := by
        unfold eqGuard
        cases op <;> first | rfl | (simp [Op.eqGuardIn, run_underlying hu]; done) | skip
      cases op <;> simp only [sbk] at hb <;> first
        | exact hb.elim
        | (refine ⟨_, _, hb, .bool _, ?_⟩
           rw [Sem.run_bind, g]
           simp only [Result.andThen_ok, binOp]
           simp [Op.equal, Op.maxDepth, k 9999])
    unfold sln at h
    split at h
    · exact fin true h ⟨none, 0, 0, by cases hx with | data hx => cases hx; rfl, rfl⟩
    · refine fin false h ?_
      cases hx with
      | data hx => cases hx; exact ⟨_, _, _, rfl, rfl⟩
    · refine fin _ h ?_
      cases hx with
      | data hx => cases hx; exact ⟨_, _, _, rfl, rfl⟩
    · exact h.elim
  · exact bin_sound hT h hx hy

/-- What a struct's or an array's literal is made of. -/
theorem fill_sound {place : Nat → Option (Nat × Nat)} {fs : List (Nat × TypeId)} (hT : Tok P T) (hp' : ∀ i off ft fe, fs[i]? = some (off, ft) → T ft = some fe → place i = some (off, fe.sz)) :
    ∀ (parts : List (Nat × Operand)) {cs : List PV} {cells : Array Value} {ρ : Operand → PV} {σ : Operand → Value} {K : List PV → Prop} (_ : ∀ x, VR w A Γ hp (ρ x) (σ x)) (_ : cells.size = cs.length) (_ : ∀ (i : Nat) (x : PV), cs[i]? = some x → VR w A Γ hp x (cells.getD i undef))
      (_ : buildS T fs cs (parts.map fun p => (p.1, ρ p.2)) K), ∃ cs' cells', K cs' ∧ Instr.fill place cells (parts.map fun p => (p.1, σ p.2)) = some cells' ∧ cells'.size = cs'.length ∧ ∀ (i : Nat) (x : PV), cs'[i]? = some x → VR w A Γ hp x (cells'.getD i undef)
  | [], cs, cells, ρ, σ, K, hρ, hl, hc, h => ⟨cs, cells, h, rfl, hl, hc⟩
  | (i, x) :: r, cs, cells, ρ, σ, K, hρ, hl, hc, h => by
    simp only [List.map_cons, buildS] at h
    cases hf : fs[i]? with
    | none => rw [hf] at h; exact h.elim
    | some p =>
      obtain ⟨off, ft⟩ := p
      rw [hf] at h
      simp only at h
      cases ht : T ft with
      | none => rw [ht] at h; exact h.elim
      | some fe =>
        rw [ht] at h
        obtain ⟨h1, h2, h3, h4⟩ := h
        obtain ⟨h5, h6⟩ := vr_flat (hρ x) h2
        simp only [List.map_cons, Instr.fill, hp' i off ft fe hf ht]
        rw [if_neg (by simp only [ne_eq, Bool.or_eq_true, decide_eq_true_eq]; omega)]
        obtain ⟨h7, h8⟩ := set_cells (R := VR w A Γ hp) (c := cells) (cs := cs) (off := off) (by omega) hl h5 hc h6
        exact fill_sound hT hp' r hρ h7 h8 h4

end Go.Pv

/- One operation that turns no memory that there is: all kinds together. -/
namespace Go.Pv
open Go.RowKit

variable {P : Program} {T : Tab} {w0 w w' : World} {Γ0 : Nat → Value} {h0 : Hp} {V M A A' : Bl} {Γ Γ' : Nat → Value} {hp hp' : Hp} {s : St} {a : Act}

/-- What is told of an operation. -/
def Told (P : Program) (V : Bl) (Γ : Nat → Value) (hp : Hp) (a : Act) (w : World) (o : Oper) (key : Nat) (K : PV → Hp → Prop) : Prop :=
  ∃ v c, K v c ∧ (∀ p ∈ c, p.1 = key) ∧ ((c ≠ [] → hget hp key = none) → Yield P V Γ hp a w o v c)

theorem Told.pure {K : PV → Hp → Prop} {key : Nat} (R : RelG w0 V M Γ0 h0 Γ s a w) {o : Oper} {x : PV} {v : Value} (hK : K x []) (h : (execOp a.eval o).run P w = .ok (.value v) w) (hv : VR w (Av V Γ s.hp) Γ s.hp x v) : Told P V Γ s.hp a w o key K :=
  ⟨x, [], hK, by simp, fun _ => Yield.pure R h hv⟩

theorem run_sem {σ : Operand → Value} {o : Oper} {x : Sem Value} {v : Value} {w w' : World} (h : execOp σ o = (do Pure.pure (.value (← x)) : Sem Next)) (hx : x.run P w = .ok v w') : (execOp σ o).run P w = .ok (.value v) w' := by
  rw [h, Sem.run_bind, hx]; rfl

section
variable {dst : Option Tmp} {ty : TypeId} {pos : String} {after : Array Edge} {guard : Option (Nat × Bool)} {K : PV → Hp → Prop} {key : Nat}
theorem getD_some {xs : List PV} {i : Nat} (h : i < xs.length) : xs[i]? = some (xs.getD i .junk) := by simp [h]

theorem told_move (R : RelG w0 V M Γ0 h0 Γ s a w) (x : Operand) (h : K (s.ev x) []) : Told P V Γ s.hp a w ⟨dst, .move x, ty, pos, after, guard⟩ key K := Told.pure R h rfl (R.ev x)
theorem told_assign (R : RelG w0 V M Γ0 h0 Γ s a w) (x : Operand) (h : K (s.ev x) []) : Told P V Γ s.hp a w ⟨dst, .assign x, ty, pos, after, guard⟩ key K := Told.pure R h rfl (R.ev x)

theorem told_pick (R : RelG w0 V M Γ0 h0 Γ s a w) (c x y : Operand) (h : qop T s.hp key s.ev K (.pick c x y)) : Told P V Γ s.hp a w ⟨dst, .pick c x y, ty, pos, after, guard⟩ key K := by
  simp only [qop] at h
  cases hc : s.ev c with
  | bool t =>
    rw [hc] at h
    have hv := vr_bool (hc ▸ R.ev c)
    refine Told.pure R (v := if t then a.eval x else a.eval y) h ?_ ?_
    · simp only [execOp, hv, asBool, Sem.run_bind, Sem.run_pure, Result.andThen_ok]
    · cases t
      · exact R.ev y
      · exact R.ev x
  | _ => rw [hc] at h; contradiction

theorem told_alloc (hT : Tok P T) (R : RelG w0 V M Γ0 h0 Γ s a w) (e : TypeId) (h : qop T s.hp key s.ev K (.alloc e)) : Told P V Γ s.hp a w ⟨dst, .alloc e, ty, pos, after, guard⟩ key K := by
  simp only [qop] at h
  cases ht : T e with
  | none => rw [ht] at h; contradiction
  | some te =>
    rw [ht] at h
    have ok := hT e te ht
    obtain ⟨h1, h2⟩ := alloc_cells (w := w) (A := Av V Γ s.hp) ok
    refine ⟨_, _, h, by simp, fun hk => Yield.box R (c := te.zval.cells) (t := e) ?_ h1 (fun i y hy => .data (h2 i y hy)) (hk (by simp))⟩
    refine run_sem rfl ?_
    simp only [Instr.alloc, Sem.run_bind, run_zero ok, Result.andThen_ok, newVar, newRow, run_newObj, Sem.run_pure]
    rfl

theorem told_box (R : RelG w0 V M Γ0 h0 Γ s a w) (e : TypeId) (x : Operand) (h : qop T s.hp key s.ev K (.box e x)) : Told P V Γ s.hp a w ⟨dst, .box e x, ty, pos, after, guard⟩ key K := by
  simp only [qop] at h
  have hp : okPart (s.ev x) = true := by
    cases hx : s.ev x <;> rw [hx] at h <;> first | rfl | (simp [flat, cell1] at h; done) | (have := h.1; simpa [flat, okPart] using this)
  obtain ⟨h1, h2⟩ := vr_flat (R.ev x) hp
  refine ⟨_, _, h.2, by simp, fun hk => Yield.box R (c := (a.eval x).cells) (t := e) ?_ h1 h2 (hk (by simp))⟩
  refine run_sem rfl ?_
  simp only [Instr.box, newVar, newRow, Sem.run_bind, run_newObj, Result.andThen_ok, Sem.run_pure]
  rfl

theorem told_bin (hT : Tok P T) (R : RelG w0 V M Γ0 h0 Γ s a w) (op : BinOp) (t : TypeId) (x y : Operand) (u : TypeId) (h : qop T s.hp key s.ev K (.binOp op t x y u)) : Told P V Γ s.hp a w ⟨dst, .binOp op t x y u, ty, pos, after, guard⟩ key K := by
  simp only [qop] at h
  split at h
  · rename_i hn
    obtain ⟨v, vv, h1, h2, h3⟩ := ifn_sound (P := P) (xo := x) (yo := y) hT hn h (R.ev x)
    have hy : a.eval y = .nilIface := by
      unfold isNil at hn
      split at hn
      · rfl
      · cases hn
    rw [← hy] at h3
    exact Told.pure R h1 (run_sem rfl h3) (.data h2)
  · obtain ⟨v, vv, h1, h2, h3⟩ := bin2_sound (P := P) (xo := x) (yo := y) hT h (R.ev x) (R.ev y)
    exact Told.pure R h1 (run_sem rfl h3) (.data h2)

theorem told_mki (hT : Tok P T) (R : RelG w0 V M Γ0 h0 Γ s a w) (t : TypeId) (x : Operand) (h : qop T s.hp key s.ev K (.makeInterface t x)) : Told P V Γ s.hp a w ⟨dst, .makeInterface t x, ty, pos, after, guard⟩ key K := by
  simp only [qop] at h
  have hx := R.ev x
  unfold mki at h
  split at h
  · rename_i k n hi he
    rw [he] at hx
    obtain ⟨k', hu⟩ : ∃ k', P.underlying t = some (.int k') := by
      unfold isIn at hi
      split at hi
      · rename_i ht; exact ⟨_, (hT t _ ht).und⟩
      · cases hi
    refine Told.pure R h (run_sem rfl ?_) (.data (.raw _))
    rw [vr_int hx]
    simp [Instr.makeInterface, run_underlying hu]
  · exact h.elim

theorem told_un (R : RelG w0 V M Γ0 h0 Γ s a w) (op : UnOp) (t : TypeId) (x : Operand) (h : qop T s.hp key s.ev K (.unOp op t x)) : Told P V Γ s.hp a w ⟨dst, .unOp op t x, ty, pos, after, guard⟩ key K := by
  simp only [qop] at h
  have hv := R.ev x
  cases op <;> cases hx : s.ev x <;> rw [hx] at h hv <;> simp only at h
  case not.bool b => exact Told.pure R h (run_sem rfl (by rw [vr_bool hv]; rfl)) (.data (.bool _))
  case neg.int k n => exact Told.pure R h (run_sem rfl (by rw [vr_int hv]; rfl)) (.data (.int _ _))
  case xor.int k n => exact Told.pure R h (run_sem rfl (by rw [vr_int hv]; rfl)) (.data (.int _ _))

theorem told_load (hT : Tok P T) (R : RelG w0 V M Γ0 h0 Γ s a w) (t : TypeId) (x : Operand) (h : qop T s.hp key s.ev K (.load t x)) : Told P V Γ s.hp a w ⟨dst, .load t x, ty, pos, after, guard⟩ key K := by
  simp only [qop] at h
  cases ht : T t with
  | none => rw [ht] at h; contradiction
  | some te =>
    rw [ht] at h
    simp only at h
    have ok := hT t te ht
    cases hc : cellsAt s.hp (s.ev x) with
    | none => rw [hc] at h; contradiction
    | some cs =>
      rw [hc] at h
      simp only at h
      obtain ⟨β, o, c, e, fr, h1, h2, h3⟩ := cellsAt_vr (R.ev x) R.hp hc
      cases hagg : te.ti.agg with
      | true =>
        simp only [hagg, if_true] at h
        have hlen : o + te.sz ≤ c.size := by
          have hj : te.sz - 1 < cs.length := by omega
          have := (h3 (te.sz - 1) _ (List.getElem?_eq_getElem hj)).1
          omega
        refine Told.pure R h.2.2 (run_sem rfl ?_) (v := .agg ((List.range te.sz).map fun j => c.getD (o + j) undef).toArray) ?_
        · simp only [Instr.loadAt, h1, Instr.sureAddr, Sem.run_bind, Sem.run_pure, Result.andThen_ok]
          rw [run_loadVar ok h2 (by simp only [hagg, if_true]; exact hlen)]
          simp only [hagg, if_true]
        · refine .agg _ _ (by simp; omega) fun i y hy => ?_
          rw [List.getElem?_take] at hy
          split at hy
          · rename_i hi
            rw [getD_eq (v := c.getD (o + i) undef) (by simp [hi])]
            exact (h3 i y hy).2
          · contradiction
      | false =>
        simp only [hagg, Bool.false_eq_true, if_false] at h
        have h4 := h3 0 (cs.getD 0 .junk) (by simp [h.1])
        refine Told.pure R h.2 (run_sem rfl ?_) (v := c.getD o undef) h4.2
        simp only [Instr.loadAt, h1, Instr.sureAddr, Sem.run_bind, Sem.run_pure, Result.andThen_ok]
        rw [run_loadVar ok h2 (by simp only [hagg, Bool.false_eq_true, if_false]; omega)]
        simp only [hagg, Bool.false_eq_true, if_false]

theorem told_nil (R : RelG w0 V M Γ0 h0 Γ s a w) (x : Operand) (h : qop T s.hp key s.ev K (.nilCheck x)) : Told P V Γ s.hp a w ⟨dst, .nilCheck x, ty, pos, after, guard⟩ key K := by
  simp only [qop] at h
  obtain ⟨h0, h⟩ := h
  obtain ⟨cs, hc⟩ := Option.isSome_iff_exists.1 h0
  obtain ⟨β, o, c, e, fr, h1, h2, h3⟩ := cellsAt_vr (R.ev x) R.hp hc
  exact Told.pure R h (by simp only [execOp, h1]; rfl) (h1 ▸ R.ev x)

theorem told_extract (R : RelG w0 V M Γ0 h0 Γ s a w) (x : Operand) (i : Nat) (h : qop T s.hp key s.ev K (.extract x i)) : Told P V Γ s.hp a w ⟨dst, .extract x i, ty, pos, after, guard⟩ key K := by
  simp only [qop] at h
  have hv := R.ev x
  cases hx : s.ev x <;> rw [hx] at h hv <;> simp only at h
  obtain ⟨cs, h1, h2, h3⟩ := vr_tup hv
  have h4 := h3 i _ (getD_some h.1)
  refine Told.pure R h.2 (run_sem rfl ?_) h4
  rw [h1]
  simp only [Instr.extract]
  rw [Array.getElem?_eq_getElem (by omega)]
  simp [h2, h.1]

theorem run_mapM {α β : Type} (f : α → Sem β) (g : α → β) : ∀ (l : List α), (∀ x ∈ l, (f x).run P w = .ok (g x) w) → (l.mapM f).run P w = .ok (l.map g) w
  | [], _ => rfl
  | x :: l, h => by
    rw [List.mapM_cons, Sem.run_bind, h x List.mem_cons_self]
    simp only [Result.andThen_ok]
    rw [Sem.run_bind, run_mapM f g l fun y hy => h y (List.mem_cons_of_mem _ hy)]
    rfl

theorem struct_fields (hT : Tok P T) {t : TypeId} {te : TE} {fs : List (Nat × TypeId)} (ht : T t = some te) (hi : te.ti = .struct fs) :
    ∃ fields, P.underlying t = some (.struct fields) ∧ (∀ (i off ft : Nat), fs[i]? = some (off, ft) → ∃ f : Field, fields[i]? = some f ∧ f.offset = off ∧ f.type = ft) ∧ ∀ f ∈ fields.toList, (P.info? f.type).isSome = true := by
  have hu := (hT t te ht).und
  rw [hi] at hu
  obtain ⟨fields, h1, h2⟩ := hu
  refine ⟨fields, h1, fun i off ft h => ?_, fun f hf => ?_⟩
  · have h3 := congrArg (fun l => l[i]?) h2
    simp only [List.getElem?_map, h, Option.map_some, Option.map_eq_some_iff] at h3
    obtain ⟨f, h4, h5⟩ := h3
    simp only [Prod.mk.injEq] at h5
    exact ⟨f, by simpa using h4, h5.1, h5.2.1⟩
  · have h3 : (f.offset, f.type, (P.info? f.type).isSome) ∈ fs.map (fun p => (p.1, p.2, true)) := h2 ▸ List.mem_map.2 ⟨f, hf, rfl⟩
    obtain ⟨p, _, h4⟩ := List.mem_map.1 h3
    simp only [Prod.mk.injEq] at h4
    exact h4.2.2.symm

theorem told_field (hT : Tok P T) (R : RelG w0 V M Γ0 h0 Γ s a w) (t : TypeId) (x : Operand) (f : Nat) (h : qop T s.hp key s.ev K (.field t x f)) : Told P V Γ s.hp a w ⟨dst, .field t x f, ty, pos, after, guard⟩ key K := by
  simp only [qop] at h
  cases ht : T t with
  | none => rw [ht] at h; contradiction
  | some te =>
    rw [ht] at h
    simp only at h
    cases hi : te.ti with
    | struct fs =>
      rw [hi] at h
      simp only at h
      obtain ⟨fields, hu, hf, hall⟩ := struct_fields hT ht hi
      cases hfs : fs[f]? with
      | none => rw [hfs] at h; contradiction
      | some p =>
        obtain ⟨off, ft⟩ := p
        rw [hfs] at h
        simp only at h
        obtain ⟨fd, hfd, ho, hft⟩ := hf f off ft hfs
        cases hfe : T ft with
        | none => rw [hfe] at h; contradiction
        | some fe =>
          rw [hfe] at h
          simp only at h
          have ok := hT ft fe hfe
          cases hx : s.ev x with
          | agg cs =>
            rw [hx] at h
            simp only at h
            obtain ⟨cc, h1, h2, h3⟩ := vr_agg (hx ▸ R.ev x)
            have run0 : ∀ r : Value, (part ft cc off).run P w = .ok r w → (Instr.field t (a.eval x) f).run P w = .ok r w := fun r hr => by
              simp only [Instr.field, Sem.run_bind, run_underlying hu, Result.andThen_ok, hfd, h1, asAgg, Sem.run_pure, ho, hft, hr]
            cases hagg : fe.ti.agg with
            | true =>
              simp only [hagg, if_true] at h
              refine Told.pure R h.2 (run_sem rfl (run0 (.agg (cc.extract off (off + fe.sz))) ?_)) ?_
              · simp only [part, Sem.run_bind, run_agg ok, Result.andThen_ok, hagg, if_true, run_size ok, Sem.run_pure]
              · refine .agg _ _ (by simp; omega) fun i y hy => ?_
                rw [List.getElem?_take] at hy
                split at hy
                · rename_i hlt
                  rw [List.getElem?_drop] at hy
                  have := h3 _ y hy
                  have e : (cc.extract off (off + fe.sz)).getD i undef = cc.getD (off + i) undef := by
                    simp only [Array.getD_eq_getD_getElem?, Array.getElem?_extract]
                    rw [if_pos (by omega)]
                  rwa [e]
                · contradiction
            | false =>
              simp only [hagg, Bool.false_eq_true, if_false] at h
              refine Told.pure R h.2 (run_sem rfl (run0 (cc.getD off undef) ?_)) (h3 off _ (getD_some h.1))
              simp only [part, Sem.run_bind, run_agg ok, Result.andThen_ok, hagg, Bool.false_eq_true, if_false]
              rw [Array.getElem?_eq_getElem (by omega)]
              simp [h2, h.1]
          | _ => rw [hx] at h; contradiction
    | _ => rw [hi] at h; contradiction

theorem told_build (hT : Tok P T) (R : RelG w0 V M Γ0 h0 Γ s a w) (t : TypeId) (ps : Array (Nat × Operand)) (h : qop T s.hp key s.ev K (.build t ps)) : Told P V Γ s.hp a w ⟨dst, .build t ps, ty, pos, after, guard⟩ key K := by
  simp only [qop] at h
  cases ht : T t with
  | none => rw [ht] at h; contradiction
  | some te =>
    rw [ht] at h
    simp only at h
    have ok := hT t te ht
    cases hi : te.ti with
    | struct fs =>
      rw [hi] at h
      simp only at h
      obtain ⟨fields, hu, hf, hall⟩ := struct_fields hT ht hi
      obtain ⟨h1, h2⟩ := alloc_cells (w := w) (A := Av V Γ s.hp) ok
      have hmap : (fields.mapM fun f => (do Pure.pure (f.offset, ← sizeOf f.type) : Sem (Nat × Nat))).run P w = .ok (fields.map fun f => (f.offset, P.cellsOf f.type)) w := by
        obtain ⟨l⟩ := fields
        rw [List.mapM_toArray, Sem.run_map, run_mapM _ (fun f => (f.offset, P.cellsOf f.type)) l fun f hf' => by
          obtain ⟨i, hi'⟩ := Option.isSome_iff_exists.1 (hall f hf')
          simp [sizeOf, typeInfo, hi', Program.cellsOf]]
        simp
      obtain ⟨cs', cells', hK, hfill, hl, hc⟩ := fill_sound (P := P) (place := fun i => (fields.map fun f => (f.offset, P.cellsOf f.type))[i]?) hT (fun i off ft fe h5 h6 => by
        obtain ⟨fd, hfd, ho, hft⟩ := hf i off ft h5
        simp only [Array.getElem?_map, hfd, Option.map_some, ho, hft]
        obtain ⟨ii, h7, h8, _⟩ := (hT ft fe h6).get
        simp [Program.cellsOf, h7, h8]) ps.toList (fun x => R.ev x) h1 (fun i x hx => .data (h2 i x hx)) h
      refine Told.pure R hK (run_sem rfl ?_) (v := .agg cells') (.agg _ _ hl hc)
      simp only [Instr.build, Sem.run_bind, run_zero ok, Result.andThen_ok, run_underlying hu, hmap]
      have e : (ps.map fun (p : Nat × Operand) => (p.1, a.eval p.2)).toList = ps.toList.map fun p => (p.1, a.eval p.2) := by simp
      simp only [e, hfill, Sem.run_pure]
    | arr m el =>
      rw [hi] at h
      simp only at h
      have hu := ok.und
      rw [hi] at hu
      cases he : T el with
      | none => rw [he] at h; contradiction
      | some ee =>
        rw [he] at h
        simp only at h
        obtain ⟨h1, h2⟩ := alloc_cells (w := w) (A := Av V Γ s.hp) ok
        obtain ⟨cs', cells', hK, hfill, hl, hc⟩ := fill_sound (P := P) (place := fun i => some (i * ee.sz, ee.sz)) hT (fun i off ft fe h5 h6 => by
          rw [List.getElem?_map, Option.map_eq_some_iff] at h5
          obtain ⟨j, hj, hj'⟩ := h5
          cases hj'
          rw [he] at h6
          cases h6
          have : j = i := by
            rw [List.getElem?_range] at hj
            · cases hj; rfl
            · exact (List.getElem?_eq_some_iff.1 hj).1 |> fun h => by simpa using h
          rw [this]) ps.toList (fun x => R.ev x) h1 (fun i x hx => .data (h2 i x hx)) h
        refine Told.pure R hK (run_sem rfl ?_) (v := .agg cells') (.agg _ _ hl hc)
        simp only [Instr.build, Sem.run_bind, run_zero ok, Result.andThen_ok, run_underlying hu, run_size (hT el ee he)]
        have e : (ps.map fun (p : Nat × Operand) => (p.1, a.eval p.2)).toList = ps.toList.map fun p => (p.1, a.eval p.2) := by simp
        simp only [e, hfill, Sem.run_pure]
    | _ => rw [hi] at h; contradiction

theorem take_drop_get {xs : List PV} {m l i : Nat} {y : PV} (h : ((xs.take m).drop l)[i]? = some y) : xs[l + i]? = some y := by
  rw [List.getElem?_drop, List.getElem?_take] at h
  split at h
  · exact h
  · contradiction

theorem told_func (R : RelG w0 V M Γ0 h0 Γ s a w) (f : Go.Fn) (first caps : Array Operand) (h : qop T s.hp key s.ev K (.makeFunc f first caps)) : Told P V Γ s.hp a w ⟨dst, .makeFunc f first caps, ty, pos, after, guard⟩ key K := by
  obtain ⟨h0, h⟩ := h
  subst h0
  refine Told.pure R h (run_sem (v := .func f #[] (caps.map a.eval)) rfl (by rw [Array.map_empty]; rfl)) (.fn f (caps.toList.map s.ev) (caps.map a.eval) (by simp) fun i y hy => ?_)
  rw [List.getElem?_map, Option.map_eq_some_iff] at hy
  obtain ⟨z, hz, rfl⟩ := hy
  rw [getD_eq (v := a.eval z) (by simpa using congrArg (Option.map a.eval) hz)]
  exact R.ev z

theorem told_slice (hT : Tok P T) (R : RelG w0 V M Γ0 h0 Γ s a w) (t : TypeId) (x : Operand) (lo hi mx : Option Operand) (h : qop T s.hp key s.ev K (.slice t x lo hi mx)) : Told P V Γ s.hp a w ⟨dst, .slice t x lo hi mx, ty, pos, after, guard⟩ key K := by
  cases mx with
  | some mx =>
    cases lo with
    | none => exact h.elim
    | some lo =>
    cases hi with
    | none => exact h.elim
    | some hi =>
    simp only [qop] at h
    cases ht : T t with
    | none => rw [ht] at h; contradiction
    | some te =>
      rw [ht] at h
      simp only at h
      have ok := hT t te ht
      have hu := ok.und
      have hx := R.ev x
      cases hi' : te.ti <;> cases hxx : s.ev x <;> rw [hi', hxx] at h <;> rw [hxx] at hx <;> rw [hi'] at hu <;> try exact False.elim h
      case slice.row e g n =>
        simp only at h
        cases hh : hget s.hp g with
        | none => rw [hh] at h; contradiction
        | some k =>
          rw [hh] at h
          cases k with
          | box bs => contradiction
          | dead => contradiction
          | row sz xs =>
            obtain ⟨hn, hee, h, hK⟩ := h
            obtain ⟨ee, he⟩ := Option.isSome_iff_exists.1 hee
            have oke := hT e ee he
            obtain ⟨ad, cap, hv, hc, _⟩ := elems_vr hx R.hp (by simp only [elems, hh, hn, if_true] : elems s.hp (.row g n) = some xs)
            have v1 := R.ev lo
            have v2 := R.ev hi
            have v3 := R.ev mx
            cases e1 : s.ev lo <;> cases e2 : s.ev hi <;> cases e3 : s.ev mx <;> rw [e1, e2, e3] at h <;> try exact False.elim h
            rename_i k1 l k2 u k3 m
            rw [e1] at v1
            rw [e2] at v2
            rw [e3] at v3
            obtain ⟨b1, b2, b3, b4⟩ := h
            have v1 := vr_int v1
            have v2 := vr_int v2
            have v3 := vr_int v3
            refine Told.pure R hK (run_sem rfl (v := .slice (if m.toNat = l.toNat then ad else ad.map (·.add (l.toNat * ee.sz))) (u.toNat - l.toNat) (m.toNat - l.toNat)) ?_) (.data (.junk _))
            simp only [Instr.sliceAt, Sem.run_bind, run_underlying hu, Result.andThen_ok, Instr.slice, hv, ← hn, Option.map_some, Instr.sliceBounds, v1, v2, v3, Sem.run_pure, run_size oke]
            rw [run_bound (by omega) (by omega)]
            simp only [Result.andThen_ok]
            rw [run_bound (by omega) (by omega)]
            simp only [Result.andThen_ok]
            rw [run_bound (by omega) (by omega)]
            simp only [Result.andThen_ok]
  | none =>
  simp only [qop] at h
  cases ht : T t with
  | none => rw [ht] at h; contradiction
  | some te =>
    rw [ht] at h
    simp only at h
    have ok := hT t te ht
    have hu := ok.und
    have hx := R.ev x
    cases hi' : te.ti <;> cases hxx : s.ev x <;> rw [hi', hxx] at h <;> rw [hxx] at hx <;> rw [hi'] at hu <;> try exact False.elim h
    case str.str b =>
      obtain ⟨l, m, hK, h1, h2, h3⟩ := bounds_sound (P := P) (isS := false) (cap := b.size) R.ev (Nat.le_refl _) h
      refine Told.pure R hK (run_sem rfl ?_) (.data (.str _))
      have hv := vr_str hx
      simp only [Instr.sliceAt, Sem.run_bind, run_underlying hu, Result.andThen_ok, Instr.slice, hv, Option.map_none, Option.isSome_none, Bool.false_eq_true, if_false, Sem.run_pure, h3]
    case slice.far e xs =>
      obtain ⟨⟨ee, he, hz⟩, h⟩ := h
      have oke := hT e ee he
      obtain ⟨ad, cap, hv, hc, hh⟩ := elems_vr hx R.hp (by rfl : elems s.hp (.far xs) = some xs)
      obtain ⟨l, m, hK, h1, h2, h3⟩ := bounds_sound (P := P) (isS := true) (cap := cap) R.ev hc h
      have hlen : ((xs.take m).drop l).length = m - l := by simp; omega
      refine Told.pure R hK (run_sem rfl (v := .slice (if cap = l then ad else ad.map (·.add (l * ee.sz))) (m - l) (cap - l)) ?_) ?_
      · simp only [Instr.sliceAt, Sem.run_bind, run_underlying hu, Result.andThen_ok, Instr.slice, hv, Option.map_none, h3, run_size oke, Sem.run_pure]
      · by_cases hml : m = l
        · have he0 : (xs.take m).drop l = [] := List.eq_nil_of_length_eq_zero (by omega)
          rw [he0, hml, Nat.sub_self]
          exact .data (.far0 _ _)
        · rcases hh with rfl | ⟨β, o, c, et, fr, sz, rfl, hw, hz', hm, hA⟩
          · simp at h2; omega
          · have hszz : sz = ee.sz := by
              have hl0 : l < xs.length := by omega
              rw [← hz' l _ (List.getElem?_eq_getElem hl0)]
              exact hz _ (List.getElem_mem hl0)
            subst hszz
            rw [if_neg (by omega), Option.map_some, addr_add, ← hlen]
            have hA' : ¬ Av V Γ s.hp β := by
              rcases hA with hA | ⟨g, n, hg, _⟩
              · exact hA
              · rcases hg with hg | ⟨_, _, hg⟩ <;> cases hg
            refine .data (.far _ β (o + l * ee.sz) (cap - l) ee.sz c et fr hA' hw (by rw [hlen]; omega) (fun i y hy => ?_) (fun i y j z hy hz1 => ?_) (fun i y j z hy hz1 => ?_))
            · exact hz' _ _ (take_drop_get hy)
            · have hy := take_drop_get hy
              have := (hm _ _ _ _ hy hz1).1
              rw [Nat.add_mul] at this
              omega
            · have hy := take_drop_get hy
              have := (hm _ _ _ _ hy hz1).2
              rwa [Nat.add_mul, ← Nat.add_assoc] at this
    case slice.row e g n =>
      simp only at h
      cases hh : hget s.hp g with
      | none => rw [hh] at h; contradiction
      | some k =>
        rw [hh] at h
        cases k with
        | box bs => contradiction
        | dead => contradiction
        | row sz xs =>
          obtain ⟨hn, ⟨ee, he, hz⟩, h⟩ := h
          have oke := hT e ee he
          obtain ⟨ad, cap, hv, hc, _⟩ := elems_vr hx R.hp (by simp only [elems, hh, hn, if_true] : elems s.hp (.row g n) = some xs)
          obtain ⟨l, m, hK, h1, h2, h3⟩ := bounds_sound (P := P) (isS := true) (cap := cap) R.ev (by omega) h
          refine Told.pure R hK (run_sem rfl (v := .slice (if cap = l then ad else ad.map (·.add (l * ee.sz))) (m - l) (cap - l)) ?_) ?_
          · simp only [Instr.sliceAt, Sem.run_bind, run_underlying hu, Result.andThen_ok, Instr.slice, hv, ← hn, Option.map_none, h3, run_size oke, Sem.run_pure]
          · refine .view g n l m _ rfl (by rw [hh]; simp) fun sz' xs' h' => ?_
            rw [hh] at h'
            cases h'
            refine ⟨by omega, fun _ => ⟨h1, h2, ad, cap, ?_, by rw [hz]⟩⟩
            rw [hv] at hx
            cases hx with
            | data hx => cases hx
            | row _ _ _ _ _ h4 => rw [hn]; exact ((h4 _ _ hh).2 hn).symm
    case slice.view e g n l0 h0 =>
      simp only at h
      cases hh : hget s.hp g with
      | none => rw [hh] at h; contradiction
      | some k =>
        rw [hh] at h
        cases k with
        | box bs => contradiction
        | dead => contradiction
        | row sz xs =>
          obtain ⟨hn, hl0, ⟨ee, he, hz⟩, h⟩ := h
          subst hl0
          have oke := hT e ee he
          obtain ⟨ad, cap, hΓ, hh0, hv⟩ : ∃ ad cap, Γ g = .slice ad n cap ∧ h0 ≤ n ∧ a.eval x = .slice ad h0 cap := by
            cases hx with
            | data hx => cases hx
            | view _ _ _ _ _ _ _ h4 =>
              obtain ⟨_, h5, ad, cap, h6, h7⟩ := (h4 _ _ hh).2 hn
              refine ⟨ad, cap, h6, h5, ?_⟩
              rw [h7]
              have : ad.map (·.add (0 * sz.sz)) = ad := by
                cases ad with
                | none => rfl
                | some q => obtain ⟨q1, q2, q3⟩ := q; simp [Addr.add]
              rw [this]
              simp
          have hcap : n ≤ cap := by
            have hk := R.hp g
            unfold HR at hk
            rw [hh] at hk
            rcases hk.2 with ⟨hk1, hk2⟩ | ⟨β, o, cap', c, et, fr, k1, k2, kq, k3, _⟩
            · subst hk1; simp only [List.length_nil] at hn; omega
            · rw [hΓ] at k1; cases k1; omega
          obtain ⟨l, m, hK, h1, h2, h3⟩ := bounds_sound (P := P) (isS := true) (cap := cap) R.ev (by split <;> omega) h
          have h2' : m ≤ n := by split at h2 <;> omega
          have h3' : (Instr.sliceBounds true h0 cap (lo.map a.eval) (hi.map a.eval) none).run P w = .ok (l, m, cap) w := by
            cases hi with
            | none => simpa using h3
            | some hi => exact h3
          refine Told.pure R hK (run_sem rfl (v := .slice (if cap = l then ad else ad.map (·.add (l * ee.sz))) (m - l) (cap - l)) ?_) ?_
          · simp only [Instr.sliceAt, Sem.run_bind, run_underlying hu, Result.andThen_ok, Instr.slice, hv, Option.map_none, h3', run_size oke, Sem.run_pure]
          · refine .view g n l m _ rfl (by rw [hh]; simp) fun sz' xs' h' => ?_
            rw [hh] at h'
            cases h'
            exact ⟨by omega, fun _ => ⟨h1, h2', ad, cap, hΓ, by rw [hz]⟩⟩

end
end Go.Pv

/- One operation that turns no memory that there is: addresses, what is made, conversions. -/
namespace Go.Pv
open Go.RowKit Go.Mth

variable {P : Program} {T : Tab} {w0 w w' : World} {Γ0 : Nat → Value} {h0 : Hp} {V M A A' : Bl} {Γ Γ' : Nat → Value} {hp hp' : Hp} {s : St} {a : Act}
variable {dst : Option Tmp} {ty : TypeId} {pos : String} {after : Array Edge} {guard : Option (Nat × Bool)} {K : PV → Hp → Prop} {key : Nat}

theorem told_fieldAddr (hT : Tok P T) (R : RelG w0 V M Γ0 h0 Γ s a w) (t : TypeId) (x : Operand) (f : Nat) (h : qop T s.hp key s.ev K (.fieldAddr t x f)) : Told P V Γ s.hp a w ⟨dst, .fieldAddr t x f, ty, pos, after, guard⟩ key K := by
  simp only [qop] at h
  cases ht : T t with
  | none => rw [ht] at h; contradiction
  | some te =>
    rw [ht] at h
    simp only at h
    cases hi : te.ti with
    | struct fs =>
      rw [hi] at h
      simp only at h
      obtain ⟨fields, hu, hf, _⟩ := struct_fields hT ht hi
      cases hfs : fs[f]? with
      | none => rw [hfs] at h; contradiction
      | some p =>
        obtain ⟨off, ft⟩ := p
        rw [hfs] at h
        simp only at h
        obtain ⟨fd, hfd, ho, hft⟩ := hf f off ft hfs
        cases hfe : T ft with
        | none => rw [hfe] at h; contradiction
        | some fe =>
          rw [hfe] at h
          simp only at h
          have ok := hT ft fe hfe
          obtain ⟨h0, h1, h⟩ := h
          obtain ⟨cs, hc⟩ := Option.isSome_iff_exists.1 h1
          have hv := R.ev x
          obtain ⟨β, o, c, e, fr, h2, h3, h4⟩ := cellsAt_vr hv R.hp hc
          have run0 : (Instr.fieldAt t (a.eval x) f).run P w = .ok (.pointer (some ⟨β, o + off, none⟩)) w := by
            simp only [Instr.fieldAt, Sem.run_bind, run_underlying hu, Result.andThen_ok, hfd, h2, Instr.sureAddr, Sem.run_pure, fieldPlace, hft, run_size ok, ho]
            rw [if_neg (by omega)]
            simp only [Sem.run_pure, Result.andThen_ok, addr_add]
          cases hx : s.ev x <;> rw [hx] at h hv hc <;> try exact False.elim h
          case ref b o' =>
            refine Told.pure R h (run_sem rfl run0) ?_
            cases hv with
            | data hv => cases hv
            | ref _ _ _ hone hg h5 =>
              refine .ref b _ _ rfl hg fun q bs hb => ?_
              obtain ⟨β', e1, e2⟩ := h5 q bs hb
              rw [h2] at e2
              cases e2
              exact ⟨β, e1, rfl⟩
          case elt g n i o' =>
            refine Told.pure R h (run_sem rfl run0) ?_
            cases hv with
            | data hv => cases hv
            | elt _ _ _ _ _ hone hg h5 =>
              refine .elt g n i _ _ rfl hg fun sz xs hb => ?_
              obtain ⟨e0, h5⟩ := h5 sz xs hb
              refine ⟨e0, fun hn => ?_⟩
              obtain ⟨e1, β', o1, cap, e2, e3⟩ := h5 hn
              rw [h2] at e3
              simp only [Value.pointer.injEq, Option.some.injEq, Addr.mk.injEq, and_true] at e3
              exact ⟨e1, β', o1, cap, e2, by rw [e3.1, e3.2]; simp only [Nat.add_assoc]⟩
          case fel xs =>
            refine Told.pure R h (run_sem rfl run0) ?_
            cases hc
            cases hv with
            | data hv =>
              rw [h2] at hv
              cases hv with
              | fel _ _ _ c' e' fr' hA hw hb h' =>
                exact .data (.fel _ β (o + off) c' e' fr' hA hw (fun j y hy => by
                    rw [List.getElem?_drop] at hy
                    have := hb _ _ hy
                    omega) (fun j y hy => by
                    rw [List.getElem?_drop] at hy
                    rw [Nat.add_assoc]
                    exact h' _ _ hy))
    | _ => rw [hi] at h; contradiction

theorem told_indexAddr (hT : Tok P T) (R : RelG w0 V M Γ0 h0 Γ s a w) (t : TypeId) (x i : Operand) (h : qop T s.hp key s.ev K (.indexAddr t x i)) : Told P V Γ s.hp a w ⟨dst, .indexAddr t x i, ty, pos, after, guard⟩ key K := by
  simp only [qop] at h
  cases ht : T t with
  | none => rw [ht] at h; exact False.elim h
  | some te =>
  have ok := hT t te ht
  have hu := ok.und
  have hi' := R.ev i
  cases hii : s.ev i <;> rw [ht, hii] at h <;> try exact False.elim h
  rename_i k j
  rw [hii] at hi'
  have hiv := vr_int hi'
  simp only at h
  have hx := R.ev x
  cases hti : te.ti <;> rw [hti] at h hu <;> try exact False.elim h
  case slice e =>
    simp only at h
    cases hfe : T e with
    | none => rw [hfe] at h; exact False.elim h
    | some ee =>
      rw [hfe] at h
      simp only at h
      have oke := hT e ee hfe
      have run0 : ∀ (β o len cap : Nat), a.eval x = .slice (some ⟨β, o, none⟩) len cap → 0 ≤ j → j < len → (Instr.indexAt t (a.eval x) (a.eval i)).run P w = .ok (.pointer (some ⟨β, o + j.toNat * ee.sz, none⟩)) w := fun β o len cap hv h0 h1 => by
        simp only [Instr.indexAt, hiv, asIntOf, Sem.run_bind, Sem.run_pure, Result.andThen_ok, run_underlying hu, hv]
        rw [if_pos ⟨h0, h1⟩]
        simp only [Sem.run_bind, run_size oke, Result.andThen_ok, Sem.run_pure, addr_add]
      cases hxx : s.ev x <;> rw [hxx] at h hx <;> try exact False.elim h
      case far xs =>
        obtain ⟨h0, h1, h2, h⟩ := h
        obtain ⟨ad, cap, hv, hc, hh⟩ := elems_vr hx R.hp (by rfl : elems s.hp (.far xs) = some xs)
        rcases hh with rfl | ⟨β, o, c, et, fr, sz, rfl, hw, hz', hm, hA⟩
        · simp at h1; omega
        · have hj : j.toNat < xs.length := by omega
          have hszz : sz = ee.sz := (hz' _ _ (getD_some hj)).symm.trans h2
          subst hszz
          have hA' : ¬ Av V Γ s.hp β := by
            rcases hA with hA | ⟨g, n, hg, _⟩
            · exact hA
            · rcases hg with hg | ⟨_, _, hg⟩ <;> cases hg
          refine Told.pure R h (run_sem rfl (run0 β o _ cap hv h0 h1)) (.data (.fel _ β _ c et fr hA' hw (fun q y hy => ?_) (fun q y hy => ?_)))
          · exact (hm _ _ _ _ (getD_some hj) hy).1
          · exact (hm _ _ _ _ (getD_some hj) hy).2
      case row g n =>
        simp only at h
        cases hh : hget s.hp g with
        | none => rw [hh] at h; exact False.elim h
        | some kk =>
          rw [hh] at h
          cases kk with
          | box bs => exact False.elim h
          | dead => exact False.elim h
          | row sz xs =>
            obtain ⟨hn, hsz, h0, h1, h⟩ := h
            cases hx with
            | data hx => cases hx
            | row _ _ _ hone hg h5 =>
              have hv := (h5 sz xs hh).2 hn
              have hk := R.hp g
              unfold HR at hk
              rw [hh] at hk
              rcases hk.2 with ⟨hk1, hk2⟩ | ⟨β, o, cap, c, e', fr, h4, _⟩
              · subst hk1; simp at hn; omega
              · rw [h4] at hv
                refine Told.pure R h (run_sem rfl (run0 β o _ cap hv h0 (by omega))) (.elt g n j.toNat 0 _ rfl hg fun sz' xs' h' => ?_)
                rw [hh] at h'
                cases h'
                exact ⟨by omega, fun _ => ⟨by omega, β, o, cap, by rw [h4, hn], by rw [hsz, Nat.add_zero]⟩⟩
      case view g n lo hi =>
        simp only at h
        cases hh : hget s.hp g with
        | none => rw [hh] at h; exact False.elim h
        | some kk =>
          rw [hh] at h
          cases kk with
          | box bs => exact False.elim h
          | dead => exact False.elim h
          | row sz xs =>
            obtain ⟨hn, hsz, h0, h1, h⟩ := h
            cases hx with
            | data hx => cases hx
            | view _ _ _ _ _ hone hg h5 =>
              obtain ⟨hl1, hl2, ad, cap, hΓ, hv⟩ := (h5 sz xs hh).2 hn
              have hk := R.hp g
              unfold HR at hk
              rw [hh] at hk
              rcases hk.2 with ⟨hk1, hk2⟩ | ⟨β, o, cap', c, e', fr, h4, _, _, h6, _⟩
              · subst hk1; simp at hn; omega
              · rw [h4] at hΓ
                simp only [Value.slice.injEq] at hΓ
                obtain ⟨e1, e2, e3⟩ := hΓ
                subst e1 e3
                rw [if_neg (by omega), Option.map_some, addr_add] at hv
                refine Told.pure R h (run_sem rfl (run0 β (o + lo * sz) _ _ hv h0 h1)) (.elt g n _ 0 _ rfl hg fun sz' xs' h' => ?_)
                rw [hh] at h'
                cases h'
                refine ⟨by omega, fun _ => ⟨by omega, β, o, cap', by rw [h4, hn], ?_⟩⟩
                rw [← hsz, Nat.add_mul, Nat.add_zero, Nat.add_assoc]
  case arr m e =>
    simp only at h
    cases hfe : T e with
    | none => rw [hfe] at h; exact False.elim h
    | some ee =>
      rw [hfe] at h
      simp only at h
      have oke := hT e ee hfe
      cases hxx : s.ev x <;> rw [hxx] at h hx <;> try exact False.elim h
      case fel xs =>
        obtain ⟨h0, h1, h⟩ := h
        obtain ⟨β, o, c, e', fr, h2, h3, h4⟩ := cellsAt_vr hx R.hp (by rfl : cellsAt s.hp (.fel xs) = some xs)
        refine Told.pure R h (run_sem rfl (v := .pointer (some ⟨β, o + j.toNat * ee.sz, none⟩)) ?_) ?_
        · simp only [Instr.indexAt, hiv, asIntOf, Sem.run_bind, Sem.run_pure, Result.andThen_ok, run_underlying hu, h2, Instr.sureAddr]
          rw [if_pos ⟨h0, h1⟩]
          simp only [Sem.run_bind, run_size oke, Result.andThen_ok, Sem.run_pure, addr_add]
        · cases hx with
          | data hx =>
            rw [h2] at hx
            cases hx with
            | fel _ _ _ c' e'' fr' hA hw hb h' =>
              exact .data (.fel _ β _ c' e'' fr' hA hw (fun i y hy => by
                rw [List.getElem?_drop] at hy
                have := hb _ _ hy
                omega) (fun i y hy => by
                rw [List.getElem?_drop] at hy
                rw [Nat.add_assoc]
                exact h' _ _ hy))
      rename_i b off
      obtain ⟨hs, h0, h1, h⟩ := h
      obtain ⟨cs, hc⟩ := Option.isSome_iff_exists.1 hs
      obtain ⟨β, o, c, e', fr, h2, h3, h4⟩ := cellsAt_vr hx R.hp hc
      refine Told.pure R h (run_sem rfl (v := .pointer (some ⟨β, o + j.toNat * ee.sz, none⟩)) ?_) ?_
      · simp only [Instr.indexAt, hiv, asIntOf, Sem.run_bind, Sem.run_pure, Result.andThen_ok, run_underlying hu, h2, Instr.sureAddr]
        rw [if_pos ⟨h0, h1⟩]
        simp only [Sem.run_bind, run_size oke, Result.andThen_ok, Sem.run_pure, addr_add]
      · cases hx with
        | data hx => cases hx
        | ref _ _ _ hone hg h5 =>
          refine .ref b _ _ rfl hg fun q bs hb => ?_
          obtain ⟨β', e1, e2⟩ := h5 q bs hb
          rw [h2] at e2
          cases e2
          exact ⟨β, e1, rfl⟩

theorem told_index (hT : Tok P T) (R : RelG w0 V M Γ0 h0 Γ s a w) (t : TypeId) (x i : Operand) (h : qop T s.hp key s.ev K (.index t x i)) : Told P V Γ s.hp a w ⟨dst, .index t x i, ty, pos, after, guard⟩ key K := by
  simp only [qop] at h
  cases ht : T t with
  | none => rw [ht] at h; exact False.elim h
  | some te =>
  have ok := hT t te ht
  have hu := ok.und
  have hi' := R.ev i
  have hx := R.ev x
  cases hxx : s.ev x <;> cases hii : s.ev i <;> rw [ht, hxx, hii] at h <;> try exact False.elim h
  case str.int b k j =>
    rw [hii] at hi'; rw [hxx] at hx
    simp only at h
    cases hti : te.ti <;> rw [hti] at h hu <;> try exact False.elim h
    obtain ⟨h0, h1, h⟩ := h
    refine Told.pure R h (run_sem rfl ?_) (.data (.int _ _))
    simp only [Instr.index, vr_int hi', vr_str hx, asIntOf, Sem.run_bind, Sem.run_pure, Result.andThen_ok, run_underlying hu]
    rw [if_pos h0]
    have hj : j.toNat < b.size := by omega
    rw [getElem?_pos b j.toNat hj]
    simp only [Sem.run_pure]
    have e : b[j.toNat]'hj = b8 b j.toNat := by
      simp only [b8, List.getD_eq_getElem?_getD, Array.getElem?_toList]
      rw [Array.getElem?_eq_getElem hj]
      rfl
    rw [e]
  case agg.int cs k j =>
    rw [hii] at hi'; rw [hxx] at hx
    simp only at h
    cases hti : te.ti <;> rw [hti] at h hu <;> try exact False.elim h
    rename_i m e
    simp only at h
    cases hfe : T e with
    | none => rw [hfe] at h; exact False.elim h
    | some ee =>
      rw [hfe] at h
      simp only at h
      have oke := hT e ee hfe
      obtain ⟨hagg, h0, h1, h2, h⟩ := h
      obtain ⟨cc, h3, h4, h5⟩ := vr_agg hx
      refine Told.pure R h (run_sem rfl ?_) (h5 _ _ (getD_some h2))
      simp only [Instr.index, vr_int hi', h3, asIntOf, Sem.run_bind, Sem.run_pure, Result.andThen_ok, run_underlying hu]
      rw [if_pos ⟨h0, h1⟩]
      simp only [Sem.run_bind, run_size oke, Result.andThen_ok, part, run_agg oke, hagg, Bool.false_eq_true, if_false]
      rw [Array.getElem?_eq_getElem (by omega)]
      simp [h4, h2]

end Go.Pv

/- One operation that turns no memory that there is: new rows, conversions, the built-in functions; and all together. -/
namespace Go.Pv
open Go.RowKit

variable {P : Program} {T : Tab} {w0 w w' : World} {Γ0 : Nat → Value} {h0 : Hp} {V M A A' : Bl} {Γ Γ' : Nat → Value} {hp hp' : Hp} {s : St} {a : Act}
variable {dst : Option Tmp} {ty : TypeId} {pos : String} {after : Array Edge} {guard : Option (Nat × Bool)} {K : PV → Hp → Prop} {key : Nat}

theorem dr_of {x : PV} {v : Value} (h : VR w A Γ hp x v) (hd : data1 x = true) : DR w A x v := by
  cases h <;> first | assumption | simp [data1] at hd

theorem told_makeSlice (hT : Tok P T) (R : RelG w0 V M Γ0 h0 Γ s a w) (t : TypeId) (l c : Operand) (h : qop T s.hp key s.ev K (.makeSlice t l c)) : Told P V Γ s.hp a w ⟨dst, .makeSlice t l c, ty, pos, after, guard⟩ key K := by
  simp only [qop] at h
  cases ht : T t with
  | none => rw [ht] at h; exact False.elim h
  | some te =>
  rw [ht] at h
  simp only at h
  have ok := hT t te ht
  have hu := ok.und
  cases hti : te.ti <;> rw [hti] at h hu <;> try exact False.elim h
  rename_i e
  simp only at h
  cases hfe : T e with
  | none => rw [hfe] at h; exact False.elim h
  | some ee =>
  rw [hfe] at h
  simp only at h
  have oke := hT e ee hfe
  have hl := R.ev l
  have hc := R.ev c
  cases hll : s.ev l <;> cases hcc : s.ev c <;> rw [hll, hcc] at h <;> try exact False.elim h
  rename_i k n k' m
  rw [hll] at hl; rw [hcc] at hc
  obtain ⟨h0, h1, h2, h3, h4, h⟩ := h
  obtain ⟨z1, z2⟩ := alloc_cells (w := w) (A := Av V Γ s.hp) oke
  obtain ⟨ii, g1, g2, g3, g4⟩ := run_info oke w
  have wn : IntKind.i64.wrap n = n := by simp [IntKind.wrap, IntKind.bits, IntKind.signed]; omega
  have wm : IntKind.i64.wrap m = m := by simp [IntKind.wrap, IntKind.bits, IntKind.signed]; omega
  have hz0 : ee.zero.length = ee.sz := oke.zero.1
  have hfl : (flat (zeroElem ee)) = ee.zero := by
    unfold zeroElem
    cases hagg : ee.ti.agg with
    | true => rfl
    | false =>
      have h1 := oke.one hagg
      rw [h1] at hz0
      simp only [Bool.false_eq_true, if_false]
      match hzz : ee.zero, hz0 with
      | [x], _ =>
        have := oke.zero.2 x (by rw [hzz]; exact List.mem_cons_self)
        show flat x = [x]
        cases x <;> first | rfl | simp at this
  have hlen : (List.replicate n.toNat (zeroElem ee)).length = n.toNat := List.length_replicate
  refine ⟨_, _, h, by simp, fun hk => ?_⟩
  have hcells : ∀ q, q < m.toNat * ee.sz → ((Array.range (m.toNat * ee.sz)).map (fun i => ee.zval.cells[i % ee.zval.cells.size]!)).getD q undef = ee.zval.cells.getD (q % ee.sz) undef := fun q hq => by
    rw [getD_eq (v := ee.zval.cells[q % ee.zval.cells.size]!) (by simp [hq])]
    rw [z1, hz0]
    have : q % ee.sz < ee.zval.cells.size := by rw [z1, hz0]; exact Nat.mod_lt _ h0
    rw [getElem!_pos ee.zval.cells _ this]
    simp [this]
  have hY := Yield.row (P := P) R (o := ⟨dst, .makeSlice t l c, ty, pos, after, guard⟩) (key := key) (sz := ⟨ee.sz, 0⟩) (cap := m.toNat) (x := List.replicate n.toNat (zeroElem ee)) (c := (Array.range (m.toNat * ee.sz)).map (fun i => ee.zval.cells[i % ee.zval.cells.size]!)) (t := e) (fr := (0, 0))
    (w' := w.alloc (.cells ((Array.range (m.toNat * ee.sz)).map (fun i => ee.zval.cells[i % ee.zval.cells.size]!)) e)) (by
      refine run_sem rfl ?_
      simp only [Instr.makeSlice, Sem.run_bind, run_underlying hu, Result.andThen_ok, vr_int hl, vr_int hc, asInt, asIntOf, Sem.run_pure, g1, g3, wn, wm]
      rw [if_neg (by simp only [Bool.or_eq_true, decide_eq_true_eq, not_or, Int.not_lt]; have : (ee.bytes : Int) * m ≤ 281474976710656 := by rw [Int.mul_comm]; exact h4
                     exact ⟨⟨⟨by omega, by omega⟩, h1⟩, h2⟩)]
      simp only [Sem.run_bind, run_askRoom, Result.andThen_ok, run_size oke]
      rw [hlen]
      by_cases hm0 : m.toNat * ee.sz = 0
      · rw [if_pos hm0]
        simp only [Sem.run_pure, Result.andThen_ok, newRow, Sem.run_bind, run_newObj, hm0]
        rw [show Array.range 0 = #[] from rfl, Array.map_empty, Array.map_empty]
        rfl
      · rw [if_neg hm0]
        simp only [Sem.run_bind, run_zero oke, Sem.run_pure, Result.andThen_ok, newRow, run_newObj]
        rfl) rfl rfl rfl rfl h0 (by rw [hlen]; omega) (by simp) (fun i q1 q2 q3 => by omega) (fun i y hy => by
      rw [List.getElem?_replicate] at hy
      split at hy
      · cases hy; rw [hfl, hz0]
      · contradiction) (fun i y j z hy hz => by
      rw [List.getElem?_replicate] at hy
      split at hy
      · rename_i hi
        cases hy
        rw [hfl] at hz
        have hj := (List.getElem?_eq_some_iff.1 hz).1
        have hq : i * ee.sz + j < m.toNat * ee.sz := by
          have : (i + 1) * ee.sz ≤ m.toNat * ee.sz := Nat.mul_le_mul_right _ (by omega)
          rw [Nat.succ_mul] at this; omega
        rw [hcells _ hq, Nat.mul_comm, Nat.mul_add_mod, Nat.mod_eq_of_lt (by omega)]
        exact z2 _ _ hz
      · contradiction) (hk (by simp))
  rw [hlen] at hY
  exact hY

/-- The elements of a slice's literal, laid one behind the other. -/
theorem fill_row {size : Nat} (h0 : 0 < size) {ρ : Operand → PV} {σ : Operand → Value} (hρ : ∀ x, VR w A Γ hp (ρ x) (σ x)) :
    ∀ (ps : List (Nat × Operand)) (k : Nat) (cells : Array Value), ps.map (·.1) = List.range' k ps.length → (∀ x ∈ ps.map (fun p => ρ p.2), (flat x).length = size ∧ (flat x).all cell1 = true ∧ (flat x).all data1 = true) → (k + ps.length) * size ≤ cells.size →
      ∃ cells', Instr.fill (fun i => some (i * size, size)) cells (ps.map fun p => (p.1, σ p.2)) = some cells' ∧ cells'.size = cells.size ∧ (∀ j, j < k * size → cells'.getD j undef = cells.getD j undef) ∧
        ∀ (i : Nat) (y : PV) (j : Nat) (z : PV), (ps.map (fun p => ρ p.2))[i]? = some y → (flat y)[j]? = some z → DR w A z (cells'.getD ((k + i) * size + j) undef)
  | [], k, cells, _, _, _ => ⟨cells, rfl, rfl, fun _ _ => rfl, fun i y j z h => by simp at h⟩
  | (i0, x) :: ps, k, cells, hi, hall, hsz => by
    simp only [List.map_cons, List.length_cons, List.range'_succ, List.cons.injEq] at hi
    obtain ⟨rfl, hi⟩ := hi
    obtain ⟨hx1, hx2, hx3⟩ := hall (ρ x) (by simp)
    have hok : okPart (ρ x) = true := by
      cases hxx : ρ x <;> rw [hxx] at hx2 <;> first | rfl | (simp [flat, cell1] at hx2; done) | (simpa [flat, okPart] using hx2)
    obtain ⟨h5, h6⟩ := vr_flat (hρ x) hok
    simp only [List.length_cons] at hsz
    have hle : i0 * size + size ≤ cells.size := by
      have : (i0 + 1) * size ≤ (i0 + (ps.length + 1)) * size := Nat.mul_le_mul_right _ (by omega)
      rw [Nat.succ_mul] at this; omega
    obtain ⟨h7, h8⟩ := foldl_set (i0 * size) (σ x).cells.toList 0 cells (by rw [Array.length_toList]; omega)
    obtain ⟨cells', e1, e2, e3, e4⟩ := fill_row h0 hρ ps (i0 + 1) _ hi (fun y hy => hall y (by simp only [List.map_cons, List.mem_cons]; exact .inr hy)) (by rw [h7]; rw [show i0 + 1 + ps.length = i0 + (ps.length + 1) by omega]; exact hsz)
    refine ⟨cells', ?_, by rw [e2, h7], fun j hj => ?_, fun i y j z hy hz => ?_⟩
    · simp only [List.map_cons, Instr.fill]
      rw [if_neg (by simp only [ne_eq, Bool.or_eq_true, decide_eq_true_eq]; omega)]
      rw [← Array.foldl_toList, Array.toList_zipIdx]
      exact e1
    · rw [e3 j (by rw [Nat.succ_mul]; omega), h8 j, if_neg (by omega)]
    · cases i with
      | zero =>
        simp only [List.map_cons, List.getElem?_cons_zero, Option.some.injEq] at hy
        subst hy
        have hj := (List.getElem?_eq_some_iff.1 hz).1
        rw [Nat.add_zero, e3 _ (by rw [Nat.succ_mul]; omega), h8, if_pos (by rw [Array.length_toList]; omega)]
        have := h6 j z hz
        have hd : data1 z = true := List.all_eq_true.1 hx3 z (List.mem_of_getElem? hz)
        rw [show i0 * size + j - (i0 * size + 0) = j by omega]
        rw [Array.getD_eq_getD_getElem?, ← Array.getElem?_toList, ← List.getD_eq_getElem?_getD] at this
        exact dr_of this hd
      | succ i =>
        simp only [List.map_cons, List.getElem?_cons_succ] at hy
        rw [show i0 + (i + 1) = i0 + 1 + i by omega]
        exact e4 i y j z hy hz

theorem seqOk_range : ∀ {l : List Nat} {k : Nat}, seqOk l k = true → l = List.range' k l.length
  | [], _, _ => rfl
  | i :: r, k, h => by
    simp only [seqOk, Bool.and_eq_true, beq_iff_eq] at h
    simp only [List.length_cons, List.range'_succ]
    rw [← seqOk_range h.2, h.1]

theorem told_buildSlice (hT : Tok P T) (R : RelG w0 V M Γ0 h0 Γ s a w) (t : TypeId) (len : Nat) (ps : Array (Nat × Operand)) (h : qop T s.hp key s.ev K (.buildSlice t len ps)) : Told P V Γ s.hp a w ⟨dst, .buildSlice t len ps, ty, pos, after, guard⟩ key K := by
  simp only [qop] at h
  cases ht : T t with
  | none => rw [ht] at h; exact False.elim h
  | some te =>
  rw [ht] at h
  simp only at h
  have ok := hT t te ht
  have hu := ok.und
  cases hti : te.ti <;> rw [hti] at h hu <;> try exact False.elim h
  rename_i e
  simp only at h
  cases hfe : T e with
  | none => rw [hfe] at h; exact False.elim h
  | some ee =>
  rw [hfe] at h
  simp only at h
  have oke := hT e ee hfe
  obtain ⟨h0, h1, h2, hpl, h3, h⟩ := h
  have h3 := clol_mem h3
  have hlen : ps.toList.length = len := by simpa using hpl
  have h2 := seqOk_range h2
  rw [List.length_map, hlen] at h2
  have hlen' : (ps.toList.map fun p => s.ev p.2).length = len := by rw [List.length_map, hlen]
  obtain ⟨cells', e1, e2, _, e4⟩ := fill_row (w := w) (A := Av V Γ s.hp) (Γ := Γ) (hp := s.hp) (size := ee.sz) h0 R.ev ps.toList 0 ((Array.range (len * ee.sz)).map (fun i => (if len * ee.sz = 0 then #[] else ee.zval.cells)[i % (if len * ee.sz = 0 then #[] else ee.zval.cells).size]!)) (by rw [hlen, h2]) h3 (by simp [← hlen])
  refine ⟨_, _, h, by simp, fun hk => ?_⟩
  have hY := Yield.row (P := P) R (o := ⟨dst, .buildSlice t len ps, ty, pos, after, guard⟩) (key := key) (sz := ⟨ee.sz, 0⟩) (cap := len) (x := ps.toList.map fun p => s.ev p.2) (c := cells') (t := e) (fr := (0, 0)) (w' := w.alloc (.cells cells' e)) (by
      refine run_sem rfl ?_
      simp only [Instr.buildSlice, Sem.run_bind, run_underlying hu, Result.andThen_ok, run_size oke]
      rw [if_neg (by omega)]
      have e : (ps.map fun (p : Nat × Operand) => (p.1, a.eval p.2)).toList = ps.toList.map fun p => (p.1, a.eval p.2) := by simp
      by_cases hz : len * ee.sz = 0
      · simp only [if_pos hz] at e1 ⊢
        simp only [Sem.run_bind, Sem.run_pure, Result.andThen_ok, e, e1, newRow, run_newObj, hlen']
        rfl
      · simp only [if_neg hz] at e1 ⊢
        simp only [Sem.run_bind, run_zero oke, Sem.run_pure, Result.andThen_ok, e, e1, newRow, run_newObj, hlen']
        rfl) rfl rfl rfl rfl h0 (by rw [hlen']; exact Nat.le_refl _) (by rw [e2]; simp) (fun i q1 q2 q3 => by omega) (fun i y hy => (h3 y (List.mem_of_getElem? hy)).1) (fun i y j z hy hz => by
      have := e4 i y j z hy hz
      rwa [Nat.zero_add] at this) (hk (by simp))
  rw [hlen'] at hY
  exact hY

theorem bytes_of : ∀ (xs : List PV), (∀ z ∈ xs, isByte z) → xs = (xs.map byteOf).map fun b => .int .u8 b.toNat
  | [], _ => rfl
  | x :: xs, h => by
    have h1 := h x List.mem_cons_self
    have h2 := bytes_of xs fun z hz => h z (List.mem_cons_of_mem _ hz)
    cases x <;> try exact False.elim h1
    rename_i k n
    cases k <;> try exact False.elim h1
    obtain ⟨h3, h4⟩ := h1
    simp only [List.map_cons]
    rw [← h2]
    congr 2
    simp only [byteOf]
    have : (UInt8.ofNat n.toNat).toNat = n.toNat := by simp; omega
    rw [this]
    omega

theorem told_convert (hT : Tok P T) (R : RelG w0 V M Γ0 h0 Γ s a w) (src dt : TypeId) (x : Operand) (h : qop T s.hp key s.ev K (.convert src dt x)) : Told P V Γ s.hp a w ⟨dst, .convert src dt x, ty, pos, after, guard⟩ key K := by
  simp only [qop] at h
  cases hs : T src with
  | none => rw [hs] at h; exact False.elim h
  | some te =>
  cases hd : T dt with
  | none => rw [hs, hd] at h; exact False.elim h
  | some de =>
  rw [hs, hd] at h
  simp only at h
  have okd := hT dt de hd
  have hud := okd.und
  have oks := hT src te hs
  have hus := oks.und
  have hx := R.ev x
  obtain ⟨sd, hsd⟩ : ∃ d, P.underlying src = some d := by
    cases hti : te.ti <;> rw [hti] at hus <;> first | exact ⟨_, hus⟩ | (obtain ⟨d, h1, _⟩ := hus; exact ⟨_, h1⟩) | (obtain ⟨ms, h1⟩ := hus; exact ⟨_, h1⟩)
  have fromBytes : ∀ (e : TypeId) (ee : TE) (xs : List PV), te.ti = .slice e → T e = some ee → ee.ti = .int .u8 → ee.sz = 1 → de.ti = .str → elems s.hp (s.ev x) = some xs → (∀ z ∈ xs, isByte z) → K (.str (strP xs)) [] →
      Told P V Γ s.hp a w ⟨dst, .convert src dt x, ty, pos, after, guard⟩ key K := fun e ee xs h1 h2 h3 h4 h5 h6 h7 h8 => by
    have oke := hT e ee h2
    have hue := oke.und
    rw [h3] at hue
    rw [h1] at hus
    rw [h5] at hud
    obtain ⟨ad, cap, hv, hc, hh⟩ := elems_vr hx R.hp h6
    have hxs := bytes_of xs h7
    refine Told.pure R h8 (run_sem rfl ?_) (.data (.str _))
    rw [hv]
    rcases hh with rfl | ⟨β, o, c, et, fr, sz, rfl, hw, hz, hm, hA⟩
    · rw [List.length_nil, run_convert_bytes_string w src dt e ad 0 cap hus hue hud]
      cases ad with
      | none => rfl
      | some ad =>
        have := run_bytesToString (P := P) w ad 0 cap [] (by simp [loadCells, loadCellsFrom])
        exact this
    · have := run_convert_bytes_back (P := P) w src dt e ⟨β, o, none⟩ cap (xs.map byteOf) hus hue hud (fun j hj => by
        rw [List.length_map] at hj
        have hx0 : xs[j]? = some (.int .u8 ((xs.map byteOf)[j]'(by rw [List.length_map]; exact hj)).toNat) := by
          conv => lhs; rw [hxs]
          simp [hj]
        have hf : (flat (PV.int .u8 ((xs.map byteOf)[j]'(by rw [List.length_map]; exact hj)).toNat))[0]? = some (PV.int .u8 ((xs.map byteOf)[j]'(by rw [List.length_map]; exact hj)).toNat) := rfl
        have hsz : sz = 1 := (hz _ _ hx0).symm
        obtain ⟨q1, q2⟩ := hm j _ 0 _ hx0 hf
        subst hsz
        rw [Nat.mul_one, Nat.add_zero] at q1 q2
        rw [addr_add, cell_getD hw q1]
        congr 1
        generalize c.getD (o + j) undef = u at q2
        cases q2
        rfl)
      rw [List.length_map] at this
      exact this
  cases hdi : de.ti <;> rw [hdi] at h hud <;> cases hxx : s.ev x <;> rw [hxx] at h <;> rw [hxx] at hx <;> try exact False.elim h
  case int.int k k' n => exact Told.pure R h (run_sem rfl (by rw [vr_int hx]; simp [convert, run_underlying hsd, run_underlying hud, Conv.intToInt])) (.data (.int _ _))
  case str.str b => exact Told.pure R h (run_sem rfl (by rw [vr_str hx]; simp [convert, run_underlying hsd, run_underlying hud])) (.data (.str _))
  case slice.str e b =>
    simp only at h
    cases hfe : T e with
    | none => rw [hfe] at h; exact False.elim h
    | some ee =>
      rw [hfe] at h
      simp only at h
      have oke := hT e ee hfe
      have hue := oke.und
      cases hei : ee.ti <;> rw [hei] at h hue <;> try exact False.elim h
      rename_i kk
      cases kk <;> try exact False.elim h
      obtain ⟨h1, h2, h⟩ := h
      have hlen : (bytesP b).length = b.size := by simp [bytesP]
      have hcs : (bytesRow b (grownCap w b.size 0 e)).size = grownCap w b.size 0 e := by
        have := grownCap_ge w b.size 0 e
        simp only [bytesRow, Array.size_append, Array.size_map, Array.size_replicate]
        have e1 : b.data.size = b.size := rfl
        omega
      refine ⟨_, _, h, by simp, fun hk => ?_⟩
      have hY := Yield.row (P := P) R (o := ⟨dst, .convert src dt x, ty, pos, after, guard⟩) (key := key) (sz := ⟨1, 0⟩) (cap := grownCap w b.size 0 e) (x := bytesP b) (c := bytesRow b (grownCap w b.size 0 e)) (t := e) (fr := ((bytesRow b (grownCap w b.size 0 e)).size, (bytesRow b (grownCap w b.size 0 e)).size + 1))
        (w' := w.drew.alloc (.cells (bytesRow b (grownCap w b.size 0 e)) e ((bytesRow b (grownCap w b.size 0 e)).size, (bytesRow b (grownCap w b.size 0 e)).size + 1))) (by
          refine run_sem rfl ?_
          rw [vr_str hx, hlen]
          rw [h2] at hus
          exact run_bytes_of_string w src dt e b hus hud hue) rfl rfl rfl rfl Nat.one_pos (by rw [hlen]; exact grownCap_ge w b.size 0 e) (by rw [hcs]; simp only; omega) (fun i q1 q2 q3 => by rw [hcs] at q3; simp only at q2; omega) (fun i y hy => by
          simp only [bytesP, List.getElem?_map, Option.map_eq_some_iff] at hy
          obtain ⟨q, _, rfl⟩ := hy
          rfl) (fun i y j z hy hz => by
          simp only [bytesP, List.getElem?_map, Option.map_eq_some_iff] at hy
          obtain ⟨q, hq, rfl⟩ := hy
          have hi := (List.getElem?_eq_some_iff.1 hq).1
          cases j with
          | succ j => simp [flat] at hz
          | zero =>
            cases hz
            rw [Nat.mul_one, Nat.add_zero, getD_eq (v := .int .u8 q.toNat) (by
              simp only [bytesRow]
              rw [Array.getElem?_append_left (by simpa using hi), Array.getElem?_map, ← Array.getElem?_toList, hq]
              rfl)]
            exact .int _ _) (hk (by simp))
      rw [hlen] at hY
      exact hY
  all_goals
    simp only at h
    cases hsi : te.ti <;> rw [hsi] at h <;> try exact False.elim h
    rename_i e
    simp only at h
    cases hfe : T e with
    | none => rw [hfe] at h; exact False.elim h
    | some ee =>
      rw [hfe] at h
      simp only at h
      cases hei : ee.ti <;> rw [hei] at h <;> try exact False.elim h
      rename_i kk
      cases kk <;> try exact False.elim h
      obtain ⟨h1, xs, h2, h3, h4⟩ := h
      exact fromBytes e ee xs hsi hfe hei h1 hdi (by rw [hxx]; exact h2) h3 h4

theorem told_builtin (hT : Tok P T) (R : RelG w0 V M Γ0 h0 Γ s a w) (b : Builtin) (args : Array Operand) (ts : Array TypeId) (h : qop T s.hp key s.ev K (.call ⟨.builtin b, args, ts⟩)) : Told P V Γ s.hp a w ⟨dst, .call ⟨.builtin b, args, ts⟩, ty, pos, after, guard⟩ key K := by
  simp only [qop] at h
  have hb : ∀ (v : Value) (f : Sem Value), (∀ cs, builtin b ts ty cs (args.map a.eval) = (do Pure.pure (.value (← f)) : Sem Next)) → f.run P w = .ok v w → (execOp a.eval ⟨dst, .call ⟨.builtin b, args, ts⟩, ty, pos, after, guard⟩).run P w = .ok (.value v) w := fun v f h1 h2 => by
    simp only [execOp, resolve, Sem.run_bind, Sem.run_pure, Result.andThen_ok, invoke, h1, h2]
  obtain ⟨l⟩ := args
  cases b <;> try exact False.elim h
  case len =>
    match l, h with
    | [], h => exact False.elim h
    | x :: y :: r, h => exact False.elim h
    | [x], h =>
      have hx := R.ev x
      have hlen : ∀ sl, lenOk T ts.toList sl = true → ∃ t te, ts = #[t] ∧ T t = some te ∧ (if sl then ∃ e, te.ti = .slice e else te.ti = .str) := fun sl hl => by
        obtain ⟨tl⟩ := ts
        match tl, hl with
        | [], hl => exact False.elim (by simp [lenOk] at hl)
        | t :: u :: r, hl => exact False.elim (by simp [lenOk] at hl)
        | [t], hl =>
          simp only [lenOk] at hl
          cases ht : T t with
          | none => rw [ht] at hl; contradiction
          | some te =>
            rw [ht] at hl
            simp only at hl
            refine ⟨t, te, rfl, ht, ?_⟩
            cases hti : te.ti <;> rw [hti] at hl <;> cases sl <;> simp_all
      have hslice : ∀ xs, elems s.hp (s.ev x) = some xs → lenOk T ts.toList true = true → K (.int .i64 xs.length) [] → Told P V Γ s.hp a w ⟨dst, .call ⟨.builtin .len, ⟨[x]⟩, ts⟩, ty, pos, after, guard⟩ key K := fun xs h1 h2 h3 => by
        obtain ⟨t, te, rfl, ht, e, hti⟩ := hlen true h2
        obtain ⟨ad, cap, hv, _⟩ := elems_vr hx R.hp h1
        have hu := (hT t te ht).und
        rw [hti] at hu
        refine Told.pure R h3 (hb (.int .i64 xs.length) _ (fun cs => rfl) ?_) (.data (.int _ _))
        simp only [List.map_toArray, List.map_cons, List.map_nil, hv, Builtin.len_]
        simp [run_underlying hu, goInt]
      cases hxx : s.ev x with
      | str b =>
        have hbody : lenOk T ts.toList false = true ∧ K (.int .i64 b.size) [] := by
          have h' := h
          simp only [List.map_cons, List.map_nil, hxx] at h'
          exact h'
        obtain ⟨t, te, rfl, ht, hti⟩ := hlen false hbody.1
        have hu := (hT t te ht).und
        simp only [Bool.false_eq_true, if_false] at hti
        rw [hti] at hu
        rw [hxx] at hx
        refine Told.pure R hbody.2 (hb (.int .i64 b.size) _ (fun cs => rfl) ?_) (.data (.int _ _))
        simp only [List.map_toArray, List.map_cons, List.map_nil, vr_str hx, Builtin.len_]
        simp [run_underlying hu, goInt]
      | _ =>
        simp only [List.map_cons, List.map_nil, hxx] at h
        obtain ⟨h1, xs, h2, h3⟩ := h
        exact hslice xs (by rw [hxx]; exact h2) h1 h3
  all_goals
    match l, h with
    | [], h => exact False.elim h
    | [x], h =>
      simp only [List.map_cons, List.map_nil] at h
      cases hxx : s.ev x <;> rw [hxx] at h <;> exact False.elim h
    | x :: y :: z :: r, h =>
      simp only [List.map_cons] at h
      cases hxx : s.ev x <;> cases hyy : s.ev y <;> rw [hxx, hyy] at h <;> exact False.elim h
    | [x, y], h =>
      have hx := R.ev x
      have hy := R.ev y
      simp only [List.map_cons, List.map_nil] at h
      cases hxx : s.ev x <;> cases hyy : s.ev y <;> rw [hxx, hyy] at h <;> try exact False.elim h
      rw [hxx] at hx; rw [hyy] at hy
      obtain ⟨rfl, h⟩ := h
      refine Told.pure R h (hb _ _ (fun cs => rfl) ?_) (.data (.int _ _))
      simp only [List.map_toArray, List.map_cons, List.map_nil, vr_int hx, vr_int hy]
      first
        | exact run_min_int2 w _ _ _ _ _ _
        | exact run_max_int2 w _ _ _ _ _ _

theorem qop_sound (hT : Tok P T) (R : RelG w0 V M Γ0 h0 Γ s a w) (o : Oper) (h : qop T s.hp key s.ev K o.op) : Told P V Γ s.hp a w o key K := by
  obtain ⟨dst, op, ty, pos, after, guard⟩ := o
  cases op <;> simp only at h <;> try exact False.elim h
  case move x => exact told_move R x h
  case assign x => exact told_assign R x h
  case pick c x y => exact told_pick R c x y h
  case alloc e => exact told_alloc hT R e h
  case box e x => exact told_box R e x h
  case build t ps => exact told_build hT R t ps h
  case buildSlice t n ps => exact told_buildSlice hT R t n ps h
  case load t x => exact told_load hT R t x h
  case nilCheck x => exact told_nil R x h
  case binOp op t x y u => exact told_bin hT R op t x y u h
  case unOp op t x => exact told_un R op t x h
  case convert x y z => exact told_convert hT R x y z h
  case makeFunc f x y => exact told_func R f x y h
  case makeSlice t x y => exact told_makeSlice hT R t x y h
  case makeInterface t x => exact told_mki hT R t x h
  case slice t x lo hi mx => exact told_slice hT R t x lo hi mx h
  case fieldAddr t x f => exact told_fieldAddr hT R t x f h
  case field t x f => exact told_field hT R t x f h
  case indexAddr t x i => exact told_indexAddr hT R t x i h
  case index t x i => exact told_index hT R t x i h
  case extract x i => exact told_extract R x i h
  case call c =>
    obtain ⟨cal, args, ts⟩ := c
    cases cal with
    | builtin b => exact told_builtin hT R b args ts h
    | value f => exact False.elim h
    | invoke f m => exact False.elim h

end Go.Pv

/- Operations that turn memory that there is. -/
namespace Go.Pv
open Go.RowKit

variable {P : Program} {T : Tab} {w0 w w' : World} {Γ0 : Nat → Value} {h0 : Hp} {V M A A' : Bl} {Γ Γ' : Nat → Value} {hp hp' : Hp} {s : St} {a : Act}

/-- What an operation does, whatever it is: a value, and a memory that has turned so. -/
def OpSem (P : Program) (V : Bl) (Γ : Nat → Value) (hp : Hp) (a : Act) (w : World) (o : Oper) (v : PV) (c : Hp) : Prop :=
  ∀ (next : Act → World → Prop) (Q : Exit → Act → World → Prop), (∀ vv w' Γ', Chg V Γ Γ' hp (c ++ hp) w w' → VR w' (Av V Γ' (c ++ hp)) Γ' (c ++ hp) v vv → next (a.put o.dst vv) w') → o.wp P a w next Q

theorem Yield.sem {o : Oper} {v : PV} {c : Hp} (h : Yield P V Γ hp a w o v c) : OpSem P V Γ hp a w o v c := fun next Q hn => by
  obtain ⟨vv, w', Γ', h1, h2, h3⟩ := h
  unfold Oper.wp
  rw [h1]
  exact hn vv w' Γ' h2 h3

theorem own_lt (R : RelG w0 V M Γ0 h0 Γ s a w) {k b : Nat} (hl : live s.hp k) (hb : ob (Γ k) = some b) : b < w.heap.size := by
  have h := R.hp k
  unfold HR at h
  unfold live at hl
  cases hh : hget s.hp k with
  | none => rw [hh] at hl; exact hl.elim
  | some c =>
    rw [hh] at h hl
    cases c with
    | dead => exact hl.elim
    | box q cs => obtain ⟨β, c, fr, h1, h2, _⟩ := h; rw [h1] at hb; cases hb; exact block_lt h2
    | row sz xs =>
      rcases h.2 with ⟨_, h2⟩ | ⟨β, o, cap, c, t, fr, h1, h2, _⟩
      · rw [h2] at hb; cases hb
      · rw [h1] at hb; cases hb; exact block_lt h2

/-- One key's memory turns: in place, or it moves to a new block. -/
theorem Chg.edit (R : RelG w0 V M Γ0 h0 Γ s a w) {k : Nat} (hl : live s.hp k) {c' : HC} {v' : Value} (ho : w'.os = w.os) (ht : w'.tape = w.tape) (hu : w'.output = w.output) (hs : w.heap.size ≤ w'.heap.size)
    (hb : ∀ b, b < w.heap.size → ob (Γ k) ≠ some b → w'.heap[b]? = w.heap[b]?) (hv : ob v' = ob (Γ k) ∨ ob v' = some w.heap.size)
    (gr : ∀ sz xs', c' = .row sz xs' → ∃ xs, hget s.hp k = some (.row sz xs) ∧ xs.length ≤ xs'.length ∧ (xs'.length = xs.length → v' = Γ k)) (gb : ∀ q cs', c' = .box q cs' → v' = Γ k ∧ ∃ cs, hget s.hp k = some (.box q cs))
    (hn : ∀ Γ', Γ' k = v' → (∀ x y, VR w (Av V Γ s.hp) Γ s.hp x y → VR w' (Av V Γ' ([(k, c')] ++ s.hp)) Γ' ([(k, c')] ++ s.hp) x y) → (∀ x y, DR w (Av V Γ s.hp) x y → DR w' (Av V Γ' ([(k, c')] ++ s.hp)) x y) →
      HR w' (Av V Γ' ([(k, c')] ++ s.hp)) Γ' ([(k, c')] ++ s.hp) k) : ∃ Γ', Chg V Γ Γ' s.hp ([(k, c')] ++ s.hp) w w' ∧ Γ' k = v' := by
  obtain ⟨Γ', hΓk, hΓ⟩ : ∃ Γ' : Nat → Value, Γ' k = v' ∧ ∀ g, g ≠ k → Γ' g = Γ g := ⟨fun g => if g = k then v' else Γ g, if_pos rfl, fun g hg => if_neg hg⟩
  refine ⟨Γ', ?_, hΓk⟩
  have hold : ∀ g, g ≠ k → hget ([(k, c')] ++ s.hp) g = hget s.hp g := fun g hg => by simp [hget, hg]
  have hnew : hget ([(k, c')] ++ s.hp) k = some c' := by simp [hget]
  have kp : Kp (Ow Γ s.hp) w w' := ⟨ho, ht, hu, hs, fun b hb' hno => hb b hb' fun e => hno ⟨k, hl, e⟩⟩
  have hsome : hget s.hp k ≠ none := fun e => by unfold live at hl; rw [e] at hl; exact hl
  have grow : Grow Γ Γ' s.hp ([(k, c')] ++ s.hp) := fun g hg => by
    by_cases e : g = k
    · subst e
      rw [hnew, hΓk]
      exact ⟨by simp, fun sz xs' h => gr sz xs' (Option.some.inj h), fun q cs' h => gb q cs' (Option.some.inj h)⟩
    · rw [hold g e, hΓ g e]
      exact ⟨hg, fun sz xs h => ⟨xs, h, Nat.le_refl _, fun _ => rfl⟩, fun _ cs' h => ⟨rfl, cs', h⟩⟩
  have lives : ∀ g, g ≠ k → live ([(k, c')] ++ s.hp) g → live s.hp g := fun g hg h => by unfold live at *; rwa [hold g hg] at h
  have own : ∀ b, Ow Γ' ([(k, c')] ++ s.hp) b → w.heap.size ≤ b ∨ Ow Γ s.hp b := fun b ⟨g, h1, h2⟩ => by
    by_cases e : g = k
    · subst e
      rw [hΓk] at h2
      rcases hv with hv | hv
      · rw [hv] at h2; exact .inr ⟨g, hl, h2⟩
      · rw [hv] at h2; cases h2; exact .inl (Nat.le_refl _)
    · rw [hΓ g e] at h2
      exact .inr ⟨g, lives g e h1, h2⟩
  refine ⟨kp, grow, own, fun g => ?_, fun g g' b l l' e e' => ?_⟩
  · by_cases ek : g = k
    · subst ek
      exact hn _ hΓk (fun x y h => vr_lift kp grow own h) (fun x y h => dr_lift kp own h)
    · refine hr_keep kp grow own (hold g ek) (hΓ g ek) (fun b hlg hog hlt => hb b hlt fun e => ek (R.dis g k b hlg hl hog e)) (R.hp g)
  · by_cases eg : g = k
    · by_cases eg' : g' = k
      · exact eg.trans eg'.symm
      · subst eg
        rw [hΓk] at e
        rw [hΓ g' eg'] at e'
        rcases hv with hv | hv
        · rw [hv] at e; exact R.dis g g' b hl (lives g' eg' l') e e'
        · rw [hv] at e; cases e; have := own_lt R (lives g' eg' l') e'; omega
    · rw [hΓ g eg] at e
      by_cases eg' : g' = k
      · subst eg'
        rw [hΓk] at e'
        rcases hv with hv | hv
        · rw [hv] at e'; exact R.dis g g' b (lives g eg l) hl e e'
        · rw [hv] at e'; cases e'; have := own_lt R (lives g eg l) e; omega
      · rw [hΓ g' eg'] at e'
        exact R.dis g g' b (lives g eg l) (lives g' eg' l') e e'

theorem run_storeCells {β o : Nat} {e : TypeId} {fr : Nat × Nat} : ∀ (vs : List Value) (i : Nat) (w : World) (c : Array Value), w.heap[β]? = some (.cells c e fr) → (∀ v ∈ vs, v.oneCell' = true) → o + i + vs.length ≤ c.size → Clean fr (o + i) (o + i + vs.length) →
    ∃ w' c', (storeCells ⟨β, o, none⟩ vs i).run P w = .ok () w' ∧ w'.heap[β]? = some (.cells c' e fr) ∧ c'.size = c.size ∧ (∀ j, c'.getD j undef = if o + i ≤ j ∧ j < o + i + vs.length then vs.getD (j - (o + i)) undef else c.getD j undef) ∧
      (∀ b, b ≠ β → w'.heap[b]? = w.heap[b]?) ∧ w'.heap.size = w.heap.size ∧ w'.os = w.os ∧ w'.tape = w.tape ∧ w'.output = w.output
  | [], i, w, c, h, _, _, _ => ⟨w, c, rfl, h, rfl, fun j => by rw [if_neg (by simp only [List.length_nil]; omega)], fun _ _ => rfl, rfl, rfl, rfl, rfl⟩
  | v :: vs, i, w, c, h, hv, hl, hc => by
    simp only [List.length_cons] at hl hc
    have h1 : w.cell? ⟨β, o + i, none⟩ = some (c.getD (o + i) undef) := cell_getD h (by omega)
    have h2 : w.frozen? ⟨β, o + i, none⟩ = false := by
      have := hc (o + i) (Nat.le_refl _) (by omega)
      simp only [World.frozen?, h]
      obtain ⟨f1, f2⟩ := fr
      simp only at this ⊢
      rw [Bool.eq_false_iff]
      simpa using this
    have h3 : (w.setCell ⟨β, o + i, none⟩ v).heap[β]? = some (.cells (c.setIfInBounds (o + i) v) e fr) := by
      simp [World.setCell, Array.getElem?_modify, h]
    have hc2 : Clean fr (o + (i + 1)) (o + (i + 1) + vs.length) := fun j q1 q2 => hc j (by omega) (by omega)
    have hl2 : o + (i + 1) + vs.length ≤ (c.setIfInBounds (o + i) v).size := by rw [Array.size_setIfInBounds]; omega
    obtain ⟨w', c', g1, g2, g3, g4, g5, g6, g7, g8, g9⟩ := run_storeCells vs (i + 1) (w.setCell ⟨β, o + i, none⟩ v) (c.setIfInBounds (o + i) v) h3 (fun u hu => hv u (List.mem_cons_of_mem _ hu)) hl2 hc2
    refine ⟨w', c', ?_, g2, by rw [g3, Array.size_setIfInBounds], fun j => ?_, fun b hb => ?_, by rw [g6]; simp, by rw [g7]; rfl, by rw [g8]; rfl, by rw [g9]; rfl⟩
    · simp only [storeCells, Sem.run_bind, addr_add, run_store P w _ v .plain (hv v List.mem_cons_self), h1, h2, Bool.false_eq_true, if_false, Result.andThen_ok]
      exact g1
    · rw [g4 j]
      by_cases e1 : j = o + i
      · subst e1
        rw [if_neg (by omega), if_pos (by simp only [List.length_cons]; omega), Nat.sub_self]
        simp only [Array.getD_eq_getD_getElem?]
        rw [Array.getElem?_setIfInBounds_self_of_lt (by omega)]
        rfl
      · by_cases e2 : o + i ≤ j ∧ j < o + i + (v :: vs).length
        · simp only [List.length_cons] at e2
          rw [if_pos (by omega), if_pos (by simp only [List.length_cons]; omega), show j - (o + i) = (j - (o + (i + 1))) + 1 by omega]
          rfl
        · simp only [List.length_cons] at e2
          rw [if_neg (by omega), if_neg (by simp only [List.length_cons]; omega)]
          simp only [Array.getD_eq_getD_getElem?]
          rw [Array.getElem?_setIfInBounds_ne (by omega)]
    · rw [g5 b hb]
      exact Below.heap_setCell _ _ _ _ (by exact hb)

def upd (x : PV) (off : Nat) (vs : List PV) : PV := match x with
  | .agg ys => .agg (splice ys off vs)
  | _ => vs.getD 0 .junk

def appd (hp : Hp) (y : PV) : Option (List PV) := match y with
  | .str b => some (bytesP b)
  | y => elems hp y

/-- Bytes of a text make a row whose type is told. -/
def qof (y : PV) (e : TypeId) : TypeId := match y with
  | .str _ => e
  | _ => 0

/-- One operation that turns memory that there is. -/
def eop (T : Tab) (hp : Hp) (key : Nat) (ρ : Operand → PV) (K : PV → Hp → Prop) : Op → Prop
  | .store t x v => match T t with
    | some te => (flat (ρ v)).length = te.sz ∧ 0 < te.sz ∧ (flat (ρ v)).all cell1 = true ∧ match ρ x with
      | .ref b off => match hget hp b with
        | some (.box q cs) => off + te.sz ≤ cs.length ∧ K .junk [(b, .box q (splice cs off (flat (ρ v))))]
        | _ => False
      | .elt g n i off => match hget hp g with
        | some (.row sz xs) => n = xs.length ∧ i < n ∧ off + te.sz ≤ sz ∧ (flat (ρ v)).all data1 = true ∧ K .junk [(g, .row sz (xs.set i (upd (xs.getD i .junk) off (flat (ρ v)))))]
        | _ => False
      | _ => False
    | none => False
  | .call { callee := .builtin .append, args := args, argTypes := ts } => match args.toList.map ρ, ts.toList with
    | [x, y], [t, u] => match T t, T u with
      | some te, some ue => match te.ti with
        | .slice e => match T e with
          | some ee => (match ue.ti with | .slice _ | .str => true | _ => false) = true ∧ 0 < ee.sz ∧ 0 < ee.bytes ∧ ∃ ys, appd hp y = some ys ∧ (∀ z ∈ ys, (flat z).length = ee.sz ∧ (flat z).all cell1 = true) ∧ match x with
            | .row g n => match hget hp g with
              | some (.row sz xs) => n = xs.length ∧ (sz.sz = ee.sz ∧ (sz.q = 0 ∨ sz.q = e)) ∧ (xs ++ ys).length * ee.bytes ≤ 140737488355328 ∧ K (.row g (xs ++ ys).length) [(g, .row sz (xs ++ ys))]
              | _ => False
            | .nils => hget hp key = none ∧ 0 < ys.length ∧ ys.length * ee.bytes ≤ 140737488355328 ∧ K (.row key ys.length) [(key, .row ⟨ee.sz, qof y e⟩ ys)]
            | .view g n lo hi => match hget hp g with
              | some (.row sz xs) => n = xs.length ∧ sz.sz = ee.sz ∧ hi + ys.length ≤ n ∧ K (.view g n lo (hi + ys.length)) [(g, .row sz (xs.take hi ++ ys ++ xs.drop (hi + ys.length)))]
              | _ => False
            | _ => False
          | none => False
        | _ => False
      | _, _ => False
    | _, _ => False
  | .call { callee := .builtin .clear, args := args, argTypes := ts } => match args.toList.map ρ, ts.toList with
    | [.view g n lo hi], [t] => match T t with
      | some te => match te.ti with
        | .slice e => match T e with
          | some ee => match hget hp g with
            | some (.row sz xs) => n = xs.length ∧ sz.sz = ee.sz ∧ lo < hi ∧ hi ≤ n ∧ K .junk [(g, .row sz (xs.take lo ++ List.replicate (hi - lo) (.agg (List.replicate sz.sz .junk)) ++ xs.drop hi))]
            | _ => False
          | none => False
        | _ => False
      | none => False
    | _, _ => False
  | .slice t x lo hi none => match T t, ρ x with
    | some te, .ref b 0 => match te.ti, hget hp b with
      | .arr m e, some (.box _ cs) => match T e with
        | some ee => ee.sz = 1 ∧ cs.length = m ∧ cs.all data1 = true ∧ bounds m (lo.map ρ) (hi.map ρ) fun l h => K (.far ((cs.take h).drop l)) [(b, .dead)]
        | none => False
      | _, _ => False
    | _, _ => False
  | _ => False

end Go.Pv

/- Operations that turn memory that there is: what the machine does. -/
namespace Go.Pv
open Go.RowKit

variable {P : Program} {T : Tab} {w0 w w' : World} {Γ0 : Nat → Value} {h0 : Hp} {V M A A' : Bl} {Γ Γ' : Nat → Value} {hp hp' : Hp} {s : St} {a : Act}
variable {dst : Option Tmp} {ty : TypeId} {pos : String} {after : Array Edge} {guard : Option (Nat × Bool)} {K : PV → Hp → Prop} {key : Nat}

theorem okPart_of {x : PV} (h : (flat x).all cell1 = true) : okPart x = true := by
  cases x <;> first | rfl | (simp [flat, cell1] at h; done) | (simpa [flat, okPart] using h)

theorem one_of {x : PV} {v : Value} (h : VR w A Γ hp x v) (hc : cell1 x = true) : v.oneCell' = true := by
  cases x <;> simp only [cell1, Bool.false_eq_true] at hc
  all_goals
    cases h
    all_goals first
      | rfl
      | assumption
      | (cases ‹DR _ _ _ _› <;> first | rfl | assumption)

theorem upd_flat {x : PV} {off : Nat} {vs : List PV} {sz : Nat} (hx : (flat x).length = sz) (h : off + vs.length ≤ sz) (h0 : 0 < vs.length) (hc : vs.all cell1 = true) : flat (upd x off vs) = splice (flat x) off vs := by
  have single : ∀ y : PV, flat y = [y] → sz = 1 → off = 0 → vs.length = 1 → flat (vs.getD 0 .junk) = splice [y] off vs := fun y _ h1 h2 h3 => by
    match vs, h3 with
    | [v], _ =>
      subst h2
      have : cell1 v = true := by simpa using hc
      show flat v = [v] ++ [y].drop 1
      cases v <;> first | rfl | simp [cell1] at this
  cases x
  case agg ys => rfl
  all_goals
    have h1 : sz = 1 := by rw [← hx]; rfl
    exact single _ rfl h1 (by omega) (by omega)

theorem eop_store (hT : Tok P T) (R : RelG w0 V M Γ0 h0 Γ s a w) (t : TypeId) (x v : Operand) (h : eop T s.hp key s.ev K (.store t x v)) :
    ∃ u c, K u c ∧ OpSem P V Γ s.hp a w ⟨dst, .store t x v, ty, pos, after, guard⟩ u c := by
  simp only [eop] at h
  cases ht : T t with
  | none => rw [ht] at h; exact False.elim h
  | some te =>
  rw [ht] at h
  simp only at h
  have ok := hT t te ht
  obtain ⟨h1, h0, h2, h⟩ := h
  obtain ⟨hf1, hf2⟩ := vr_flat (R.ev v) (okPart_of h2)
  have hone : ∀ u ∈ (a.eval v).cells.toList, u.oneCell' = true := fun u hu => by
    obtain ⟨i, hi⟩ := List.mem_iff_getElem?.1 hu
    have hi' := (List.getElem?_eq_some_iff.1 hi).1
    rw [Array.length_toList, hf1] at hi'
    have := hf2 i _ (List.getElem?_eq_getElem hi')
    rw [getD_eq (v := u) (by rw [← Array.getElem?_toList]; exact hi)] at this
    exact one_of this (List.all_eq_true.1 h2 _ (List.getElem_mem hi'))
  have run0 : ∀ (β o : Nat) (c : Array Value) (e : TypeId) (fr : Nat × Nat), a.eval x = .pointer (some ⟨β, o, none⟩) → w.heap[β]? = some (.cells c e fr) → o + te.sz ≤ c.size → Clean fr o (o + te.sz) →
      ∃ w' c', (execOp a.eval ⟨dst, .store t x v, ty, pos, after, guard⟩).run P w = .ok .skip w' ∧ w'.heap[β]? = some (.cells c' e fr) ∧ c'.size = c.size ∧ (∀ j, c'.getD j undef = if o ≤ j ∧ j < o + te.sz then (a.eval v).cells.getD (j - o) undef else c.getD j undef) ∧
        (∀ b, b ≠ β → w'.heap[b]? = w.heap[b]?) ∧ w'.heap.size = w.heap.size ∧ w'.os = w.os ∧ w'.tape = w.tape ∧ w'.output = w.output := fun β o c e fr hv hw hb hc => by
    have hl : (a.eval v).cells.toList.length = te.sz := by rw [Array.length_toList, hf1, h1]
    obtain ⟨w', c', g1, g2, g3, g4, g5⟩ := run_storeCells (P := P) (β := β) (o := o) (a.eval v).cells.toList 0 w c hw hone (by rw [hl]; omega) (by rw [hl]; exact hc)
    refine ⟨w', c', ?_, g2, g3, fun j => ?_, g5⟩
    · simp only [execOp, Instr.storeAt, hv, Instr.sureAddr, Sem.run_bind, Sem.run_pure, Result.andThen_ok, storeVar, run_size ok]
      rw [if_neg (by simp only [ne_eq]; omega)]
      simp only [g1, Result.andThen_ok]
    · rw [g4 j, hl, Nat.add_zero]
      simp only [Array.getD_eq_getD_getElem?, List.getD_eq_getElem?_getD, Array.getElem?_toList]
  cases hxx : s.ev x <;> rw [hxx] at h <;> try exact False.elim h
  case ref b off =>
    simp only at h
    cases hh : hget s.hp b with
    | none => rw [hh] at h; exact False.elim h
    | some kk =>
    rw [hh] at h
    cases kk with
    | row _ _ => exact False.elim h
    | dead => exact False.elim h
    | box q cs =>
    obtain ⟨h3, h⟩ := h
    have hl : live s.hp b := by unfold live; rw [hh]; trivial
    have hk := R.hp b
    unfold HR at hk
    rw [hh] at hk
    obtain ⟨β, c, fr, k1, k2, k3, k4, k5⟩ := hk
    have hx := R.ev x
    rw [hxx] at hx
    have hv : a.eval x = .pointer (some ⟨β, off, none⟩) := by
      cases hx with
      | data hx => cases hx
      | ref _ _ _ _ _ h5 =>
        obtain ⟨β', e1, e2⟩ := h5 q cs hh
        rw [k1] at e1
        cases e1
        exact e2
    obtain ⟨w', c', g1, g2, g3, g4, g5, g6, g7, g8, g9⟩ := run0 β off c q fr hv k2 (by omega) (fun i q1 q2 => k4 i (Nat.zero_le _) (by omega))
    refine ⟨_, _, h, fun next Q hn => ?_⟩
    obtain ⟨Γ', C, e1⟩ := Chg.edit (w' := w') R hl (c' := .box q (splice cs off (flat (s.ev v)))) (v' := Γ b) g7 g8 g9 (by omega) (fun b' hb' hne => g5 b' (fun e => hne (by rw [k1, e]; rfl))) (.inl rfl) (fun _ _ h => by cases h) (fun _ _ e => by cases e; exact ⟨rfl, cs, hh⟩)
      (fun Γ' e1 lift _ => by
        unfold HR
        rw [show hget ([(b, HC.box q (splice cs off (flat (s.ev v))))] ++ s.hp) b = some (.box q (splice cs off (flat (s.ev v)))) by simp [hget]]
        have hln : (splice cs off (flat (s.ev v))).length = cs.length := by simp only [splice, List.length_append, List.length_take, List.length_drop]; omega
        refine ⟨β, c', fr, by rw [e1, k1], g2, by rw [g3, k3, hln], fun i q1 q2 => k4 i q1 (by omega), fun j y hy => ?_⟩
        have hs := splice_get (by omega) hy
        rw [g4 j]
        by_cases hj : off ≤ j ∧ j < off + te.sz
        · rw [if_pos (by omega)] at hs
          rw [if_pos hj]
          exact lift _ _ (hf2 _ _ hs)
        · rw [if_neg (by omega)] at hs
          rw [if_neg hj]
          exact lift _ _ (k5 _ _ hs))
    unfold Oper.wp
    rw [g1]
    exact hn undef w' Γ' C (.data (.junk _))
  case elt g n i off =>
    simp only at h
    cases hh : hget s.hp g with
    | none => rw [hh] at h; exact False.elim h
    | some kk =>
    rw [hh] at h
    cases kk with
    | box _ _ => exact False.elim h
    | dead => exact False.elim h
    | row sz xs =>
    obtain ⟨hn, hi, h3, h4, h⟩ := h
    have hl : live s.hp g := by unfold live; rw [hh]; trivial
    have hk := R.hp g
    unfold HR at hk
    rw [hh] at hk
    obtain ⟨hsz0, hk⟩ := hk
    have hx := R.ev x
    rw [hxx] at hx
    obtain ⟨β, o, cap, e1, hv⟩ : ∃ β o cap, Γ g = .slice (some ⟨β, o, none⟩) n cap ∧ a.eval x = .pointer (some ⟨β, o + i * sz + off, none⟩) := by
      cases hx with
      | data hx => cases hx
      | elt _ _ _ _ _ _ _ h5 => exact ((h5 sz xs hh).2 hn).2
    rcases hk with ⟨hk1, hk2⟩ | ⟨β', o', cap', c, e, fr, k1, k2, kq, k3, k4, k5, k6, k7⟩
    · rw [e1] at hk2; cases hk2
    · rw [e1] at k1
      simp only [Value.slice.injEq, Option.some.injEq, Addr.mk.injEq, and_true] at k1
      obtain ⟨⟨rfl, rfl⟩, hnn, rfl⟩ := k1
      have hx0 := getD_some (xs := xs) (i := i) (by omega)
      have hzx := k6 i _ hx0
      have hin : (i + 1) * sz ≤ cap * sz := Nat.mul_le_mul_right sz (by omega)
      rw [Nat.succ_mul] at hin
      obtain ⟨w', c', g1, g2, g3, g4, g5, g6, g7, g8, g9⟩ := run0 β (o + i * sz + off) c e fr hv k2 (by omega) (fun j q1 q2 => k5 j (by omega) (by omega))
      refine ⟨_, _, h, fun next Q hnx => ?_⟩
      have hfl := upd_flat (x := xs.getD i .junk) (off := off) (vs := flat (s.ev v)) hzx (by omega) (by omega) h2
      have hsplen : (splice (flat (xs.getD i .junk)) off (flat (s.ev v))).length = sz := by simp only [splice, List.length_append, List.length_take, List.length_drop]; omega
      obtain ⟨Γ', C, e2⟩ := Chg.edit (w' := w') R hl (c' := .row sz (xs.set i (upd (xs.getD i .junk) off (flat (s.ev v))))) (v' := Γ g) g7 g8 g9 (by omega) (fun b' hb' hne => g5 b' (fun e => hne (by rw [e1, e]; rfl))) (.inl rfl)
        (fun sz' xs' h' => by cases h'; exact ⟨xs, hh, by simp, fun _ => rfl⟩) (fun _ _ h => by cases h)
        (fun Γ' e2 _ lift => by
          unfold HR
          rw [show hget ([(g, HC.row sz (xs.set i (upd (xs.getD i .junk) off (flat (s.ev v)))))] ++ s.hp) g = some (.row sz (xs.set i (upd (xs.getD i .junk) off (flat (s.ev v))))) by simp [hget]]
          refine ⟨hsz0, .inr ⟨β, o, cap, c', e, fr, by rw [e2, e1, List.length_set, hn], g2, ⟨kq.1, by rw [g3]; exact kq.2⟩, by rw [List.length_set]; exact k3, by rw [g3]; exact k4, k5, fun j y hy => ?_, fun j y q z hy hz => ?_⟩⟩
          · rw [List.getElem?_set] at hy
            split at hy
            · split at hy
              · cases hy; rw [hfl]; exact hsplen
              · contradiction
            · exact k6 j y hy
          · rw [List.getElem?_set] at hy
            rw [g4]
            split at hy
            · rename_i hij
              subst hij
              split at hy
              · cases hy
                rw [hfl] at hz
                have hq := (List.getElem?_eq_some_iff.1 hz).1
                rw [hsplen] at hq
                have hs := splice_get (by omega) hz
                by_cases hj : off ≤ q ∧ q < off + te.sz
                · rw [if_pos (by omega)] at hs
                  rw [if_pos (by omega), show o + i * sz + q - (o + i * sz + off) = q - off by omega]
                  exact lift _ _ (dr_of (hf2 _ _ hs) (List.all_eq_true.1 h4 _ (List.mem_of_getElem? hs)))
                · rw [if_neg (by omega)] at hs
                  rw [if_neg (by omega)]
                  exact lift _ _ (k7 i _ q z hx0 hs)
              · contradiction
            · rename_i hij
              have hq := (List.getElem?_eq_some_iff.1 hz).1
              have hzy := k6 j y hy
              have hlt : ¬ (o + i * sz + off ≤ o + j * sz + q ∧ o + j * sz + q < o + i * sz + off + te.sz) := by
                intro ⟨q1, q2⟩
                rcases Nat.lt_or_ge i j with hlt | hge
                · have : (i + 1) * sz ≤ j * sz := Nat.mul_le_mul_right sz hlt
                  rw [Nat.succ_mul] at this; omega
                · have : (j + 1) * sz ≤ i * sz := Nat.mul_le_mul_right sz (by omega)
                  rw [Nat.succ_mul] at this; omega
              rw [if_neg hlt]
              exact lift _ _ (k7 j y q z hy hz))
      unfold Oper.wp
      rw [g1]
      exact hnx undef w' Γ' C (.data (.junk _))

end Go.Pv

/- Append, at memory that the call owns. -/
namespace Go.Pv
open Go.RowKit

variable {P : Program} {T : Tab} {w0 w w' : World} {Γ0 : Nat → Value} {h0 : Hp} {V M A A' : Bl} {Γ Γ' : Nat → Value} {hp hp' : Hp} {s : St} {a : Act}
variable {dst : Option Tmp} {ty : TypeId} {pos : String} {after : Array Edge} {guard : Option (Nat × Bool)} {K : PV → Hp → Prop} {key : Nat}

/-- What is laid behind: its cells. -/
theorem first_cells {y : PV} {v : Value} {ys : List PV} {sz : Nat} (hv : VR w A Γ hp y v) (hr : ∀ k, HR w A Γ hp k) (h : appd hp y = some ys) (h0 : 0 < sz) (hz : ∀ z ∈ ys, (flat z).length = sz) :
    (Builtin.lenOf v).run P w = .ok ys.length w ∧ ∃ nw : Array Value, (∀ w' : World, w'.heap = w.heap → (Builtin.firstCells sz ys.length v).run P w' = .ok nw w') ∧ (∀ w', (Builtin.lenOf v).run P w' = .ok ys.length w') ∧ nw.size = ys.length * sz ∧
      (∀ (i : Nat) (z : PV) (j : Nat) (u : PV), ys[i]? = some z → (flat z)[j]? = some u → DR w A u (nw.getD (i * sz + j) undef)) := by
  have slices : elems hp y = some ys → (Builtin.lenOf v).run P w = .ok ys.length w ∧ ∃ nw : Array Value, (∀ w' : World, w'.heap = w.heap → (Builtin.firstCells sz ys.length v).run P w' = .ok nw w') ∧ (∀ w', (Builtin.lenOf v).run P w' = .ok ys.length w') ∧ nw.size = ys.length * sz ∧
      (∀ (i : Nat) (z : PV) (j : Nat) (u : PV), ys[i]? = some z → (flat z)[j]? = some u → DR w A u (nw.getD (i * sz + j) undef)) := fun h => by
    obtain ⟨ad, cap, rfl, hc, hh⟩ := elems_vr hv hr h
    refine ⟨rfl, ?_⟩
    rcases hh with rfl | ⟨β, o, c, et, fr, sz', rfl, hw, hz', hm, hA⟩
    · refine ⟨#[], fun w' hw => ?_, fun _ => rfl, by simp, fun i z j u h => by simp at h⟩
      cases ad with
      | none => rfl
      | some ad => simp [Builtin.firstCells, loadCells, loadCellsFrom]
    · by_cases hys : ys = []
      · subst hys
        exact ⟨#[], fun w' hw => by simp [Builtin.firstCells, loadCells, loadCellsFrom], fun _ => rfl, by simp, fun i z j u h => by simp at h⟩
      · have hpos : 0 < ys.length := List.length_pos_iff.2 hys
        have hszz : sz' = sz := by rw [← hz' 0 _ (List.getElem?_eq_getElem hpos)]; exact hz _ (List.getElem_mem hpos)
        subst hszz
        have hlast : o + ys.length * sz' ≤ c.size := by
          have hl := getD_some (xs := ys) (i := ys.length - 1) (by omega)
          have hfl := hz' _ _ hl
          have := (hm (ys.length - 1) _ (sz' - 1) _ hl (getD_some (by omega))).1
          have e : (ys.length - 1 + 1) * sz' = ys.length * sz' := by rw [show ys.length - 1 + 1 = ys.length by omega]
          rw [Nat.succ_mul] at e
          omega
        refine ⟨((List.range (ys.length * sz')).map fun j => c.getD (o + j) undef).toArray, fun w' hw' => ?_, fun _ => rfl, by simp, fun i z j u hi hj => ?_⟩
        · exact run_cells (by rw [hw']; exact hw) hlast
        · have h1 := (List.getElem?_eq_some_iff.1 hi).1
          have h2 := (List.getElem?_eq_some_iff.1 hj).1
          have h3 := hz' i z hi
          have h4 : (i + 1) * sz' ≤ ys.length * sz' := Nat.mul_le_mul_right _ (by omega)
          rw [Nat.succ_mul] at h4
          rw [getD_eq (v := c.getD (o + (i * sz' + j)) undef) (by rw [List.getElem?_toArray, List.getElem?_map, List.getElem?_range (by omega)]; rfl), ← Nat.add_assoc]
          exact (hm i z j u hi hj).2
  cases y
  case str b =>
    simp only [appd, Option.some.injEq] at h
    subst h
    have hlen : (bytesP b).length = b.size := by simp [bytesP]
    have hv' := vr_str hv
    subst hv'
    rw [hlen]
    have h1 : sz = 1 ∨ b.size = 0 := by
      by_cases hb : b.size = 0
      · exact .inr hb
      · left
        have hb0 : 0 < (bytesP b).length := by omega
        have hm : ((bytesP b)[0]'hb0) ∈ bytesP b := List.getElem_mem hb0
        have := hz _ hm
        simp only [bytesP, List.getElem_map, flat, List.length_singleton] at this
        exact this.symm
    have hex : (b.extract 0 b.size).data = b.data := by simp
    refine ⟨rfl, b.data.map fun x => .int .u8 x.toNat, fun w' _ => ?_, fun _ => rfl, ?_, fun i z j u hi hj => ?_⟩
    · simp only [Builtin.firstCells, hex]; rfl
    · rw [Array.size_map]
      have : b.data.size = b.size := rfl
      rcases h1 with h1 | h1
      · rw [h1, this, Nat.mul_one]
      · rw [this, h1, Nat.zero_mul]
    · have hi' := (List.getElem?_eq_some_iff.1 hi).1
      rcases h1 with rfl | h1
      · simp only [bytesP, List.getElem?_map, Option.map_eq_some_iff] at hi
        obtain ⟨q, hq, rfl⟩ := hi
        cases j with
        | succ j => simp [flat] at hj
        | zero =>
          cases hj
          rw [Nat.mul_one, Nat.add_zero, getD_eq (v := .int .u8 q.toNat) (by rw [Array.getElem?_map, ← Array.getElem?_toList, hq]; rfl)]
          exact .int _ _
      · omega
  all_goals exact slices h

theorem qof_ok (y : PV) (e : TypeId) : qof y e = 0 ∨ e = qof y e := by
  cases y <;> first | exact .inl rfl | exact .inr rfl
theorem vr_nils {v : Value} (h : VR w A Γ hp .nils v) : v = .slice none 0 0 := by
  cases h with | data h => cases h; rfl

theorem zeroCells_size (z : Array Value) (n : Nat) : (Builtin.zeroCells z n).size = n * z.size := by simp [Builtin.zeroCells]

theorem mid_get {α : Type} (xs ys : List α) (hi i : Nat) (h : hi + ys.length ≤ xs.length) : (xs.take hi ++ ys ++ xs.drop (hi + ys.length))[i]? = if i < hi then xs[i]? else if i < hi + ys.length then ys[i - hi]? else xs[i]? := by
  have ht : (xs.take hi).length = hi := by rw [List.length_take]; omega
  by_cases h1 : i < hi
  · rw [if_pos h1, List.append_assoc, List.getElem?_append_left (by omega), List.getElem?_take, if_pos h1]
  · rw [if_neg h1]
    by_cases h2 : i < hi + ys.length
    · rw [if_pos h2, List.getElem?_append_left (by rw [List.length_append]; omega), List.getElem?_append_right (by omega), ht]
    · rw [if_neg h2, List.getElem?_append_right (by rw [List.length_append]; omega), List.getElem?_drop]
      congr 1
      rw [List.length_append]
      omega
set_option maxHeartbeats 1000000 in
theorem eop_append (hT : Tok P T) (R : RelG w0 V M Γ0 h0 Γ s a w) (args : Array Operand) (ts : Array TypeId) (h : eop T s.hp key s.ev K (.call ⟨.builtin .append, args, ts⟩)) :
    ∃ u c, K u c ∧ OpSem P V Γ s.hp a w ⟨dst, .call ⟨.builtin .append, args, ts⟩, ty, pos, after, guard⟩ u c := by
  obtain ⟨l⟩ := args
  obtain ⟨tl⟩ := ts
  match l, tl, h with
  | [], _, h => exact False.elim h
  | [_], _, h => exact False.elim h
  | _ :: _ :: _ :: _, _, h => exact False.elim h
  | [_, _], [], h => exact False.elim h
  | [_, _], [_], h => exact False.elim h
  | [_, _], _ :: _ :: _ :: _, h => exact False.elim h
  | [x, y], [t, u], h =>
  simp only [eop, List.map_cons, List.map_nil] at h
  cases ht : T t with
  | none => rw [ht] at h; exact False.elim h
  | some te =>
  cases hu : T u with
  | none => rw [ht, hu] at h; exact False.elim h
  | some ue =>
  rw [ht, hu] at h
  simp only at h
  have okt := hT t te ht
  have hut := okt.und
  have oku := hT u ue hu
  have huu := oku.und
  cases hti : te.ti <;> rw [hti] at h hut <;> try exact False.elim h
  rename_i e
  simp only at h
  cases hfe : T e with
  | none => rw [hfe] at h; exact False.elim h
  | some ee =>
  rw [hfe] at h
  simp only at h
  have oke := hT e ee hfe
  obtain ⟨hk, h0, hby, ys, hys, hyz, h⟩ := h
  obtain ⟨ud, hud, hkind⟩ : ∃ d, P.underlying u = some d ∧ (d = .string ∨ ∃ q, d = .slice q) := by
    cases hui : ue.ti <;> rw [hui] at hk huu <;> simp only [Bool.false_eq_true] at hk
    · exact ⟨_, huu, .inl rfl⟩
    · exact ⟨_, huu, .inr ⟨_, rfl⟩⟩
  obtain ⟨hlen, nw, hfc, hlen', hns, hnd⟩ := first_cells (P := P) (R.ev y) R.hp (by exact hys : appd s.hp (s.ev y) = some ys) h0 (fun z hz => (hyz z hz).1)
  obtain ⟨ii, gi1, gi2, gi3, gi4⟩ := run_info oke w
  have ginfo : ∀ w', (typeInfo e).run P w' = .ok ii w' := fun w' => by
    obtain ⟨i', q1, _⟩ := run_info oke w'
    have e1 : P.info? e = some ii := by
      have := gi1
      unfold typeInfo at this
      cases hq : P.info? e with
      | none => simp [hq] at this
      | some i => simp [hq] at this; rw [this]
    simp [typeInfo, e1]
  have hnone : ∀ v ∈ nw.toList, v.oneCell' = true := fun v hv => by
    obtain ⟨q, hq⟩ := List.mem_iff_getElem?.1 hv
    have hq' := (List.getElem?_eq_some_iff.1 hq).1
    rw [Array.length_toList, hns] at hq'
    have hi : q / ee.sz < ys.length := (Nat.div_lt_iff_lt_mul h0).2 hq'
    have hz1 := getD_some hi
    have hz2 := (hyz _ (List.mem_of_getElem? hz1))
    have hj : q % ee.sz < (flat (ys.getD (q / ee.sz) .junk)).length := by rw [hz2.1]; exact Nat.mod_lt _ h0
    have := hnd _ _ _ _ hz1 (getD_some hj)
    rw [Nat.mul_comm, Nat.div_add_mod, getD_eq (v := v) (by rw [← Array.getElem?_toList]; exact hq)] at this
    have hc : cell1 ((flat (ys.getD (q / ee.sz) .junk)).getD (q % ee.sz) .junk) = true := List.all_eq_true.1 hz2.2 _ (List.mem_of_getElem? (getD_some hj))
    exact one_of (Γ := Γ) (hp := s.hp) (.data this) hc
  have runIn : ∀ (base : Option Addr) (len cap : Nat) (w' : World), a.eval x = .slice base len cap → len + ys.length ≤ cap → (match base with | some ad => (storeCells (ad.add (len * ee.sz)) nw.toList).run P w = .ok () w' | none => w' = w) →
      (execOp a.eval ⟨dst, .call ⟨.builtin .append, ⟨[x, y]⟩, ⟨[t, u]⟩⟩, ty, pos, after, guard⟩).run P w = .ok (.value (.slice base (len + ys.length) cap)) w' := fun base len cap w' hv hle hst => by
    simp only [execOp, resolve, Sem.run_bind, Sem.run_pure, Result.andThen_ok, invoke, builtin, List.map_toArray, List.map_cons, List.map_nil, hv]
    rcases hkind with rfl | ⟨q, rfl⟩ <;> cases base <;> simp only at hst <;>
      simp [Builtin.append_, run_underlying hut, run_underlying hud, run_size oke, hlen, hle, hfc w rfl, hst]
  have runOut : ∀ (base : Option Addr) (len cap : Nat) (old : Array Value), a.eval x = .slice base len cap → cap < len + ys.length → (len + ys.length) * ee.bytes ≤ 140737488355328 → (∀ w', w'.heap = w.heap → (Builtin.firstCells ee.sz len (.slice base len cap)).run P w' = .ok old w') → 
      ∃ (ncap : Nat) (w1 : World), len + ys.length ≤ ncap ∧ w1.heap = w.heap ∧ w1.os = w.os ∧ w1.tape = w.tape ∧ w1.output = w.output ∧ (execOp a.eval ⟨dst, .call ⟨.builtin .append, ⟨[x, y]⟩, ⟨[t, u]⟩⟩, ty, pos, after, guard⟩).run P w =
        .ok (.value (.slice (some ⟨w.heap.size, 0, none⟩) (len + ys.length) ncap)) (w1.alloc (.cells (old ++ (nw ++ Builtin.zeroCells ee.zval.cells (ncap - (len + ys.length)))) e)) := fun base len cap old hv hlt hb hold => by
    refine ⟨grownCap w (len + ys.length) cap e, w.drew, grownCap_ge _ _ _ _, rfl, rfl, rfl, rfl, ?_⟩
    have hng := growslice_fits hlt hb
    simp only [execOp, resolve, Sem.run_bind, Sem.run_pure, Result.andThen_ok, invoke, builtin, List.map_toArray, List.map_cons, List.map_nil, hv]
    have h3 : ii.bytes = ee.bytes := gi3
    have hnf : (Question.appendCap (len + ys.length) cap e).forced = false := rfl
    have hnl : ¬ (len + ys.length ≤ cap) := by omega
    have hn1 : ¬ ((9223372036854775807 : Int) < ↑len + ↑ys.length ∧ ee.bytes = 0) := by omega
    have hn2 : ¬ (281474976710656 < Builtin.nextslicecap (len + ys.length) cap * ee.bytes) := by omega
    rcases hkind with rfl | ⟨q, rfl⟩ <;>
    · simp [Builtin.append_, run_underlying hut, run_underlying hud, run_size oke, hlen, hnl, ginfo, h3, hnf, -not_and, hn1, hn2, hold w.drew rfl, hfc w.drew rfl, run_zero oke, newRow]
      exact ⟨rfl, rfl⟩
  obtain ⟨z1, z2⟩ := alloc_cells (w := w) (A := Av V Γ s.hp) oke
  have hz0 : ee.zval.cells.size = ee.sz := by rw [z1, oke.zero.1]
  have hyz' : ∀ (i : Nat) (z : PV), ys[i]? = some z → (flat z).length = ee.sz := fun i z hz => (hyz z (List.mem_of_getElem? hz)).1
  cases hxx : s.ev x <;> rw [hxx] at h <;> try exact False.elim h
  case nils =>
    obtain ⟨hk, hpos, hb, h⟩ := h
    have hv : a.eval x = .slice none 0 0 := vr_nils (hxx ▸ R.ev x)
    obtain ⟨ncap, w1, g1, g2, g3, g4, g5, g6⟩ := runOut none 0 0 #[] hv (by omega) (by rw [Nat.zero_add]; exact hb) (fun _ _ => rfl)
    rw [Nat.zero_add] at g1 g6
    have hsz : ((#[] : Array Value) ++ (nw ++ Builtin.zeroCells ee.zval.cells (ncap - ys.length))).size = ncap * ee.sz := by
      rw [Array.empty_append, Array.size_append, zeroCells_size, hns, hz0, ← Nat.add_mul]
      congr 1; omega
    exact ⟨_, _, h, (Yield.row R (key := key) (fr := (0, 0)) g6 (by rw [show (w1.alloc _).heap = w1.heap.push _ from rfl, g2]) g3 g4 g5 h0 g1 (by rw [hsz]; exact Nat.le_refl _) (fun i q1 q2 q3 => by simp only at q3; omega) hyz' (fun i z j q hz hq => by
      have hi := (List.getElem?_eq_some_iff.1 hz).1
      have hj := (List.getElem?_eq_some_iff.1 hq).1
      rw [hyz' i z hz] at hj
      have : (i + 1) * ee.sz ≤ ys.length * ee.sz := Nat.mul_le_mul_right _ (by omega)
      rw [Nat.succ_mul] at this
      dsimp only
      rw [Array.empty_append, Array.getD_eq_getD_getElem?, Array.getElem?_append_left (by omega), ← Array.getD_eq_getD_getElem?]
      exact hnd i z j q hz hq) hk (qof_ok _ _)).sem⟩
  case view g n lo hi =>
    simp only at h
    cases hh : hget s.hp g with
    | none => rw [hh] at h; exact False.elim h
    | some kk =>
    rw [hh] at h
    cases kk with
    | box _ _ => exact False.elim h
    | dead => exact False.elim h
    | row sz xs =>
    obtain ⟨hn, hsz, hle, h⟩ := h
    obtain ⟨sz, tq⟩ := sz
    simp only at hsz
    subst hsz
    subst hn
    have hl : live s.hp g := by unfold live; rw [hh]; trivial
    obtain ⟨hlo, hhi, ba, cap0, hΓ, hv⟩ : lo ≤ hi ∧ hi ≤ xs.length ∧ ∃ ba cap0, Γ g = .slice ba xs.length cap0 ∧ a.eval x = .slice (if cap0 = lo then ba else ba.map (·.add (lo * ee.sz))) (hi - lo) (cap0 - lo) := by
      have := R.ev x
      rw [hxx] at this
      cases this with
      | data h => cases h
      | view _ _ _ _ _ _ _ h5 => exact (h5 _ _ hh).2 rfl
    have hXl : (xs.take hi ++ ys ++ xs.drop (hi + ys.length)).length = xs.length := by rw [List.length_append, List.length_append, List.length_take, List.length_drop]; omega
    have hmid := fun i => mid_get xs ys hi i hle
    generalize xs.take hi ++ ys ++ xs.drop (hi + ys.length) = X at *
    have hnew : hget ([(g, HC.row ⟨ee.sz, tq⟩ X)] ++ s.hp) g = some (.row ⟨ee.sz, tq⟩ X) := by simp [hget]
    have hlen4 : hi - lo + ys.length = hi + ys.length - lo := by omega
    have fin : ∀ (w' : World), (execOp a.eval ⟨dst, .call ⟨.builtin .append, ⟨[x, y]⟩, ⟨[t, u]⟩⟩, ty, pos, after, guard⟩).run P w = .ok (.value (.slice (if cap0 = lo then ba else ba.map (·.add (lo * ee.sz))) (hi - lo + ys.length) (cap0 - lo))) w' →
        (∃ Γ', Chg V Γ Γ' s.hp ([(g, .row ⟨ee.sz, tq⟩ X)] ++ s.hp) w w' ∧ Γ' g = Γ g) → ∃ p c, K p c ∧ OpSem P V Γ s.hp a w ⟨dst, .call ⟨.builtin .append, ⟨[x, y]⟩, ⟨[t, u]⟩⟩, ty, pos, after, guard⟩ p c := fun w' hr ⟨Γ', C, e1⟩ => by
      refine ⟨_, _, h, fun next Q hnx => ?_⟩
      unfold Oper.wp
      rw [hr]
      exact hnx _ w' Γ' C (.view g _ lo (hi + ys.length) _ rfl (by rw [hnew]; simp) fun sz' xs' h' => by
        rw [hnew] at h'
        cases h'
        exact ⟨by omega, fun _ => ⟨by omega, by omega, ba, cap0, e1.trans hΓ, by rw [hlen4]⟩⟩)
    have grw : ∀ sz' xs', HC.row ⟨ee.sz, tq⟩ X = .row sz' xs' → ∃ xs0, hget s.hp g = some (.row sz' xs0) ∧ xs0.length ≤ xs'.length ∧ (xs'.length = xs0.length → Γ g = Γ g) := fun sz' xs' h' => by
      cases h'
      exact ⟨xs, hh, by omega, fun _ => rfl⟩
    have hk := R.hp g
    unfold HR at hk
    rw [hh] at hk
    dsimp only at hk
    rcases hk.2 with ⟨hk1, hk2⟩ | ⟨β, o, cap, c, et, fr, k1, k2, kq, k3, k4, k5, k6, k7⟩
    · subst hk1
      have hz0 : (List.length ([] : List PV)) = 0 := rfl
      have e0 := hk2.symm.trans hΓ
      obtain ⟨rfl, rfl⟩ : none = ba ∧ 0 = cap0 := by cases e0; exact ⟨rfl, rfl⟩
      have hhi0 : hi = 0 := by omega
      have hlo0 : lo = 0 := by omega
      have hys0 : ys = [] := List.eq_nil_of_length_eq_zero (by omega)
      have hX0 : X = [] := List.eq_nil_of_length_eq_zero (by omega)
      subst hlo0
      subst hhi0
      refine fin w (by
        have k := runIn none 0 0 w (by rw [hv]; rfl) (by rw [hys0]; exact Nat.le_refl _) rfl
        rw [k]; simp) (Chg.edit R hl rfl rfl rfl (Nat.le_refl _) (fun _ _ _ => rfl) (.inl rfl) grw (fun _ _ h => by cases h) fun Γ' e1 _ _ => ?_)
      unfold HR
      rw [hnew]
      dsimp only
      exact ⟨h0, .inl ⟨hX0, by rw [e1, hk2]⟩⟩
    · have e0 := k1.symm.trans hΓ
      obtain ⟨rfl, rfl⟩ : some ⟨β, o, none⟩ = ba ∧ cap = cap0 := by cases e0; exact ⟨rfl, rfl⟩
      have hHR : ∀ (w' : World) (c' : Array Value), w'.heap[β]? = some (.cells c' et fr) → c'.size = c.size → (∀ Γ' : Nat → Value, Γ' g = Γ g → (∀ x y, VR w (Av V Γ s.hp) Γ s.hp x y → VR w' (Av V Γ' ([(g, HC.row ⟨ee.sz, tq⟩ X)] ++ s.hp)) Γ' ([(g, HC.row ⟨ee.sz, tq⟩ X)] ++ s.hp) x y) → (∀ x y, DR w (Av V Γ s.hp) x y → DR w' (Av V Γ' ([(g, HC.row ⟨ee.sz, tq⟩ X)] ++ s.hp)) x y) →
          (∀ (i : Nat) (z : PV) (j : Nat) (q : PV), X[i]? = some z → (flat z)[j]? = some q → DR w (Av V Γ s.hp) q (c'.getD (o + i * ee.sz + j) undef)) → HR w' (Av V Γ' ([(g, HC.row ⟨ee.sz, tq⟩ X)] ++ s.hp)) Γ' ([(g, HC.row ⟨ee.sz, tq⟩ X)] ++ s.hp) g) := fun w' c' g2 g3 Γ' e1 _ lift hel => by
        unfold HR
        rw [hnew]
        dsimp only
        refine ⟨h0, .inr ⟨β, o, cap, c', et, fr, by rw [e1, hXl]; exact k1, g2, ⟨kq.1, by rw [g3]; exact kq.2⟩, by omega, by rw [g3]; exact k4, k5, fun i z hz => ?_, fun i z j q hz hq => lift _ _ (hel i z j q hz hq)⟩⟩
        rw [hmid] at hz
        split at hz
        · exact k6 i z hz
        · split at hz
          · exact hyz' _ z hz
          · exact k6 i z hz
      by_cases hcl : cap = lo
      · have hys0 : ys = [] := List.eq_nil_of_length_eq_zero (by omega)
        have hnw : nw.toList = [] := List.eq_nil_of_length_eq_zero (by rw [Array.length_toList, hns, hys0]; simp)
        have e4 : hi - lo = 0 := by omega
        refine fin w (by
          have k := runIn (some ⟨β, o, none⟩) (hi - lo) (cap - lo) w (by rw [hv, if_pos hcl]) (by rw [hys0]; simp only [List.length_nil]; omega) (by simp only [hnw]; rfl)
          rw [k, if_pos hcl]) (Chg.edit R hl rfl rfl rfl (Nat.le_refl _) (fun _ _ _ => rfl) (.inl rfl) grw (fun _ _ h => by cases h) fun Γ' e1 l1 l2 => hHR w c k2 rfl Γ' e1 l1 l2 fun i z j q hz hq => ?_)
        rw [hmid] at hz
        have hz : xs[i]? = some z := by
          split at hz
          · exact hz
          · split at hz
            · rw [hys0] at hz; simp at hz
            · exact hz
        exact k7 i z j q hz hq
      · have hsum : (hi + ys.length) * ee.sz ≤ cap * ee.sz := Nat.mul_le_mul_right _ (by omega)
        rw [Nat.add_mul] at hsum
        have hl2 : nw.toList.length = ys.length * ee.sz := by rw [Array.length_toList, hns]
        obtain ⟨w', c', g1, g2, g3, g4, g5, g6, g7, g8, g9⟩ := run_storeCells (P := P) (β := β) (o := o + hi * ee.sz) nw.toList 0 w c k2 hnone (by rw [hl2]; omega) (fun i q1 q2 => k5 i (by omega) (by rw [hl2] at q2; omega))
        have hoff : o + lo * ee.sz + (hi - lo) * ee.sz = o + hi * ee.sz := by
          rw [Nat.add_assoc, ← Nat.add_mul]
          congr 2; omega
        have hmm : Option.map (fun x : Addr => x.add (lo * ee.sz)) (some ⟨β, o, none⟩) = some ⟨β, o + lo * ee.sz, none⟩ := by simp only [Option.map, addr_add]
        refine fin w' (by
          have k := runIn (some ⟨β, o + lo * ee.sz, none⟩) (hi - lo) (cap - lo) w' (by rw [hv, if_neg hcl, hmm]) (by omega) (by simp only [addr_add]; rw [hoff]; exact g1)
          rw [k, if_neg hcl, hmm]) (Chg.edit R hl g7 g8 g9 (by omega) (fun b _ hne => g5 b fun e => hne (by rw [k1, e]; rfl)) (.inl rfl) grw (fun _ _ h => by cases h) fun Γ' e1 l1 l2 => hHR w' c' g2 g3 Γ' e1 l1 l2 fun i z j q hz hq => ?_)
        have hj := (List.getElem?_eq_some_iff.1 hq).1
        rw [g4, hl2]
        rw [hmid] at hz
        split at hz
        · rename_i hi1
          have hzz := k6 i z hz
          have : (i + 1) * ee.sz ≤ hi * ee.sz := Nat.mul_le_mul_right _ (by omega)
          rw [Nat.succ_mul] at this
          rw [if_neg (by omega)]
          exact k7 i z j q hz hq
        · rename_i hi1
          split at hz
          · rename_i hi2
            have hzz := hyz' _ z hz
            have e2 : i * ee.sz = hi * ee.sz + (i - hi) * ee.sz := by rw [← Nat.add_mul]; congr 1; omega
            have h5 : (i - hi + 1) * ee.sz ≤ ys.length * ee.sz := Nat.mul_le_mul_right _ (by omega)
            rw [Nat.succ_mul] at h5
            rw [if_pos (by omega), show o + i * ee.sz + j - (o + hi * ee.sz + 0) = (i - hi) * ee.sz + j by omega]
            have := hnd _ z j q hz hq
            rw [Array.getD_eq_getD_getElem?, ← Array.getElem?_toList, ← List.getD_eq_getElem?_getD] at this
            exact this
          · rename_i hi2
            have hzz := k6 i z hz
            have h6 : (hi + ys.length) * ee.sz ≤ i * ee.sz := Nat.mul_le_mul_right _ (by omega)
            rw [Nat.add_mul] at h6
            rw [if_neg (by omega)]
            exact k7 i z j q hz hq
  case row g n =>
    simp only at h
    cases hh : hget s.hp g with
    | none => rw [hh] at h; exact False.elim h
    | some kk =>
    rw [hh] at h
    cases kk with
    | box _ _ => exact False.elim h
    | dead => exact False.elim h
    | row sz xs =>
    obtain ⟨hn, ⟨hsz, htq⟩, hb, h⟩ := h
    obtain ⟨sz, tq⟩ := sz
    simp only at hsz htq
    subst hsz
    have hl : live s.hp g := by unfold live; rw [hh]; trivial
    have hv : a.eval x = Γ g := by
      have := R.ev x
      rw [hxx] at this
      cases this with
      | data h => cases h
      | row _ _ _ _ _ h5 => exact (h5 _ _ hh).2 hn
    have hlen2 : (xs ++ ys).length = xs.length + ys.length := List.length_append
    rw [hlen2] at hb
    have hnew : hget ([(g, HC.row ⟨ee.sz, tq⟩ (xs ++ ys))] ++ s.hp) g = some (.row ⟨ee.sz, tq⟩ (xs ++ ys)) := by simp [hget]
    have fin : ∀ (w' : World) (v' : Value), (execOp a.eval ⟨dst, .call ⟨.builtin .append, ⟨[x, y]⟩, ⟨[t, u]⟩⟩, ty, pos, after, guard⟩).run P w = .ok (.value v') w' → v'.oneCell' = true → (∃ Γ', Chg V Γ Γ' s.hp ([(g, .row ⟨ee.sz, tq⟩ (xs ++ ys))] ++ s.hp) w w' ∧ Γ' g = v') →
        ∃ p c, K p c ∧ OpSem P V Γ s.hp a w ⟨dst, .call ⟨.builtin .append, ⟨[x, y]⟩, ⟨[t, u]⟩⟩, ty, pos, after, guard⟩ p c := fun w' v' hr ho ⟨Γ', C, e1⟩ => by
      refine ⟨_, _, h, fun next Q hnx => ?_⟩
      unfold Oper.wp
      rw [hr]
      exact hnx v' w' Γ' C (.row g _ _ ho (by rw [hnew]; simp) fun sz' xs' h' => by rw [hnew] at h'; cases h'; exact ⟨Nat.le_refl _, fun _ => e1.symm⟩)
    have grw : ∀ v' : Value, (ys = [] → v' = Γ g) → ∀ sz' xs', HC.row ⟨ee.sz, tq⟩ (xs ++ ys) = .row sz' xs' → ∃ xs0, hget s.hp g = some (.row sz' xs0) ∧ xs0.length ≤ xs'.length ∧ (xs'.length = xs0.length → v' = Γ g) := fun v' hv' sz' xs' h' => by
      cases h'
      exact ⟨xs, hh, by omega, fun e => hv' (List.eq_nil_of_length_eq_zero (by omega))⟩
    have out : ∀ (base : Option Addr) (cap : Nat) (old : Array Value), Γ g = .slice base xs.length cap → cap < xs.length + ys.length → old.size = xs.length * ee.sz → (∀ w', w'.heap = w.heap → (Builtin.firstCells ee.sz xs.length (.slice base xs.length cap)).run P w' = .ok old w') →
        (∀ (i : Nat) (z : PV), xs[i]? = some z → (flat z).length = ee.sz) → (∀ (i : Nat) (z : PV) (j : Nat) (q : PV), xs[i]? = some z → (flat z)[j]? = some q → DR w (Av V Γ s.hp) q (old.getD (i * ee.sz + j) undef)) → ∃ p c, K p c ∧ OpSem P V Γ s.hp a w ⟨dst, .call ⟨.builtin .append, ⟨[x, y]⟩, ⟨[t, u]⟩⟩, ty, pos, after, guard⟩ p c := fun base cap old hΓ hlt hos hold hxz hxd => by
      obtain ⟨ncap, w1, g1, g2, g3, g4, g5, g6⟩ := runOut base xs.length cap old (hv.trans hΓ) hlt hb hold
      have hcs : (old ++ (nw ++ Builtin.zeroCells ee.zval.cells (ncap - (xs.length + ys.length)))).size = ncap * ee.sz := by
        rw [Array.size_append, Array.size_append, zeroCells_size, hns, hz0, hos, ← Nat.add_mul, ← Nat.add_mul]
        congr 1; omega
      have hps : w.heap.size < (w1.alloc (.cells (old ++ (nw ++ Builtin.zeroCells ee.zval.cells (ncap - (xs.length + ys.length)))) e)).heap.size := by
        rw [World.size_alloc, g2]; omega
      have hnb : (w1.alloc (.cells (old ++ (nw ++ Builtin.zeroCells ee.zval.cells (ncap - (xs.length + ys.length)))) e)).heap[w.heap.size]? = some (.cells (old ++ (nw ++ Builtin.zeroCells ee.zval.cells (ncap - (xs.length + ys.length)))) e) := by
        rw [← g2]; exact heap_alloc_new w1 _
      have hcapn : ys = [] → (Value.slice (some ⟨w.heap.size, 0, none⟩) (xs.length + ys.length) ncap) = Γ g := fun e => by
        exfalso
        subst e
        simp only [List.length_nil] at hlt
        have hk := R.hp g
        unfold HR at hk
        rw [hh] at hk
        dsimp only at hk
        rcases hk.2 with ⟨q1, q2⟩ | ⟨_, _, _, _, _, _, q1, _, _, q3, _⟩
        · rw [hΓ] at q2; simp only [Value.slice.injEq] at q2; omega
        · rw [hΓ] at q1; simp only [Value.slice.injEq] at q1; omega
      refine fin _ _ g6 rfl (Chg.edit (w' := w1.alloc (.cells (old ++ (nw ++ Builtin.zeroCells ee.zval.cells (ncap - (xs.length + ys.length)))) e)) R hl g3 g4 g5 (by omega) (fun b hb' _ => (Below.heap_alloc w1 _ b (by rw [g2]; exact hb')).trans (by rw [g2])) (.inr rfl) (grw _ hcapn) (fun _ _ h => by cases h) ?_)
      intro Γ' e1 _ lift
      unfold HR
      rw [hnew]
      dsimp only
      refine ⟨h0, .inr ⟨w.heap.size, 0, ncap, _, e, (0, 0), by rw [e1, hlen2], hnb, ⟨htq.imp id fun h => ⟨h.symm, rfl⟩, .inr (fun h => absurd h.2 (Nat.not_lt_zero _))⟩, by omega, by rw [hcs]; omega, fun i q1 q2 q3 => by omega, fun i z hz => ?_, fun i z j q hz hq => ?_⟩⟩
      · rw [List.getElem?_append] at hz
        split at hz
        · exact hxz i z hz
        · exact hyz' _ z hz
      · rw [Nat.zero_add, Array.getD_eq_getD_getElem?]
        have hj := (List.getElem?_eq_some_iff.1 hq).1
        rw [List.getElem?_append] at hz
        split at hz
        · rename_i hi
          have hzz := hxz i z hz
          have : (i + 1) * ee.sz ≤ xs.length * ee.sz := Nat.mul_le_mul_right _ (by omega)
          rw [Nat.succ_mul] at this
          rw [Array.getElem?_append_left (by omega), ← Array.getD_eq_getD_getElem?]
          exact lift _ _ (hxd i z j q hz hq)
        · rename_i hi
          have hzz := hyz' _ z hz
          have hi2 := (List.getElem?_eq_some_iff.1 hz).1
          have e2 : i * ee.sz + j - old.size = (i - xs.length) * ee.sz + j := by
            have : i * ee.sz = xs.length * ee.sz + (i - xs.length) * ee.sz := by rw [← Nat.add_mul]; congr 1; omega
            omega
          have h5 : (i - xs.length + 1) * ee.sz ≤ ys.length * ee.sz := Nat.mul_le_mul_right _ (by omega)
          rw [Nat.succ_mul] at h5
          have h6 : xs.length * ee.sz ≤ i * ee.sz := Nat.mul_le_mul_right _ (by omega)
          rw [Array.getElem?_append_right (by omega), e2, Array.getElem?_append_left (by omega), ← Array.getD_eq_getD_getElem?]
          exact lift _ _ (hnd _ z j q hz hq)
    have hk := R.hp g
    unfold HR at hk
    rw [hh] at hk
    dsimp only at hk
    rcases hk.2 with ⟨hk1, hk2⟩ | ⟨β, o, cap, c, et, fr, k1, k2, kq, k3, k4, k5, k6, k7⟩
    · subst hk1
      by_cases hys0 : ys = []
      · subst hys0
        refine fin w (.slice none 0 0) (runIn none 0 0 w (hv.trans hk2) (Nat.le_refl _) rfl) rfl (Chg.edit R hl rfl rfl rfl (Nat.le_refl _) (fun _ _ _ => rfl) (.inl (by rw [hk2])) (grw _ (fun _ => hk2.symm)) (fun _ _ h => by cases h) fun Γ' e1 _ _ => ?_)
        unfold HR
        rw [hnew]
        dsimp only
        exact ⟨h0, .inl ⟨rfl, e1⟩⟩
      · exact out none 0 #[] hk2 (by have := List.length_pos_iff.2 hys0; simp only [List.length_nil]; omega) (by simp) (fun _ _ => rfl) (fun i z h => by simp at h) (fun i z j q h => by simp at h)
    · by_cases hle : xs.length + ys.length ≤ cap
      · have hsum : (xs.length + ys.length) * ee.sz ≤ cap * ee.sz := Nat.mul_le_mul_right _ hle
        rw [Nat.add_mul] at hsum
        have hl2 : nw.toList.length = ys.length * ee.sz := by rw [Array.length_toList, hns]
        obtain ⟨w', c', g1, g2, g3, g4, g5, g6, g7, g8, g9⟩ := run_storeCells (P := P) (β := β) (o := o + xs.length * ee.sz) nw.toList 0 w c k2 hnone (by rw [hl2]; omega) (fun i q1 q2 => k5 i (by omega) (by rw [hl2] at q2; omega))
        refine fin w' _ (runIn (some ⟨β, o, none⟩) xs.length cap w' (hv.trans k1) hle (by simp only [addr_add]; exact g1)) rfl (Chg.edit R hl g7 g8 g9 (by omega) (fun b _ hne => g5 b fun e => hne (by rw [k1, e]; rfl)) (.inl (by rw [k1]; rfl)) (grw _ (fun e => by subst e; rw [k1]; rfl)) (fun _ _ h => by cases h) fun Γ' e1 _ lift => ?_)
        unfold HR
        rw [hnew]
        dsimp only
        refine ⟨h0, .inr ⟨β, o, cap, c', et, fr, by rw [e1, hlen2], g2, ⟨kq.1, by rw [g3]; exact kq.2⟩, by omega, by rw [g3]; exact k4, k5, fun i z hz => ?_, fun i z j q hz hq => ?_⟩⟩
        · rw [List.getElem?_append] at hz
          split at hz
          · exact k6 i z hz
          · exact hyz' _ z hz
        · have hj := (List.getElem?_eq_some_iff.1 hq).1
          rw [g4, hl2]
          rw [List.getElem?_append] at hz
          split at hz
          · rename_i hi
            have hzz := k6 i z hz
            have : (i + 1) * ee.sz ≤ xs.length * ee.sz := Nat.mul_le_mul_right _ (by omega)
            rw [Nat.succ_mul] at this
            rw [if_neg (by omega)]
            exact lift _ _ (k7 i z j q hz hq)
          · rename_i hi
            have hzz := hyz' _ z hz
            have hi2 := (List.getElem?_eq_some_iff.1 hz).1
            have e2 : i * ee.sz = xs.length * ee.sz + (i - xs.length) * ee.sz := by rw [← Nat.add_mul]; congr 1; omega
            have h5 : (i - xs.length + 1) * ee.sz ≤ ys.length * ee.sz := Nat.mul_le_mul_right _ (by omega)
            rw [Nat.succ_mul] at h5
            rw [if_pos (by omega), show o + i * ee.sz + j - (o + xs.length * ee.sz + 0) = (i - xs.length) * ee.sz + j by omega]
            have := hnd _ z j q hz hq
            rw [Array.getD_eq_getD_getElem?, ← Array.getElem?_toList, ← List.getD_eq_getElem?_getD] at this
            exact lift _ _ this
      · refine out (some ⟨β, o, none⟩) cap _ k1 (by omega) (by simp) (fun w' hw' => run_cells (by rw [hw']; exact k2) (by have : xs.length * ee.sz ≤ cap * ee.sz := Nat.mul_le_mul_right _ k3; omega)) k6 (fun i z j q hz hq => ?_)
        have hj := (List.getElem?_eq_some_iff.1 hq).1
        have hi := (List.getElem?_eq_some_iff.1 hz).1
        have hzz := k6 i z hz
        have : (i + 1) * ee.sz ≤ xs.length * ee.sz := Nat.mul_le_mul_right _ (by omega)
        rw [Nat.succ_mul] at this
        rw [getD_eq (v := c.getD (o + (i * ee.sz + j)) undef) (by rw [List.getElem?_toArray, List.getElem?_map, List.getElem?_range (by omega)]; rfl), ← Nat.add_assoc]
        exact k7 i z j q hz hq

end Go.Pv

/- An array's variable, sliced: from then on it is only read. -/
namespace Go.Pv
open Go.RowKit

variable {P : Program} {T : Tab} {w0 w w' : World} {Γ0 : Nat → Value} {h0 : Hp} {V M A A' : Bl} {Γ Γ' : Nat → Value} {hp hp' : Hp} {s : St} {a : Act}
variable {dst : Option Tmp} {ty : TypeId} {pos : String} {after : Array Edge} {guard : Option (Nat × Bool)} {K : PV → Hp → Prop} {key : Nat}

theorem hgetK {b k : Nat} (h : k ≠ b) : hget ([(b, HC.dead)] ++ hp) k = hget hp k := by simp [hget, h]
theorem hgetK_dead {b : Nat} : hget ([(b, HC.dead)] ++ hp) b = some .dead := by simp [hget]
theorem liveK {b k : Nat} (h : live ([(b, HC.dead)] ++ hp) k) : k ≠ b ∧ live hp k := by
  by_cases e : k = b
  · subst e; unfold live at h; rw [hgetK_dead] at h; exact h.elim
  · refine ⟨e, ?_⟩
    unfold live at h ⊢
    rwa [hgetK e] at h
/-- A variable is given up: nothing is known of it from then on. -/
theorem Chg.kill (R : RelG w0 V M Γ0 h0 Γ s a w) {b : Nat} (hb : hget s.hp b ≠ none) : Chg V Γ Γ s.hp ([(b, .dead)] ++ s.hp) w w := by
  have ow : ∀ x, Ow Γ ([(b, HC.dead)] ++ s.hp) x → Ow Γ s.hp x := fun x ⟨k, l, o⟩ => ⟨k, (liveK l).2, o⟩
  have kp : Kp (Ow Γ s.hp) w w := Kp.refl _ _
  have gr : Grow Γ Γ s.hp ([(b, .dead)] ++ s.hp) := fun g hg => by
    by_cases e : g = b
    · subst e
      rw [hgetK_dead]
      exact ⟨by simp, fun _ _ h => (by cases h), fun _ _ h => (by cases h)⟩
    · rw [hgetK e]
      exact ⟨hg, fun sz xs' h => ⟨xs', h, Nat.le_refl _, fun _ => rfl⟩, fun q cs' h => ⟨rfl, cs', h⟩⟩
  refine ⟨kp, gr, fun x hx => .inr (ow x hx), fun k => ?_, fun k k' x l l' o o' => R.dis k k' x (liveK l).2 (liveK l').2 o o'⟩
  by_cases e : k = b
  · subst e
    unfold HR
    rw [hgetK_dead]
    trivial
  · exact hr_keep kp gr (fun x hx => .inr (ow x hx)) (hgetK e) rfl (fun _ _ _ _ => rfl) (R.hp k)

theorem eop_slice (hT : Tok P T) (R : RelG w0 V M Γ0 h0 Γ s a w) (t : TypeId) (x : Operand) (lo hi : Option Operand) (h : eop T s.hp key s.ev K (.slice t x lo hi none)) :
    ∃ u c, K u c ∧ OpSem P V Γ s.hp a w ⟨dst, .slice t x lo hi none, ty, pos, after, guard⟩ u c := by
  simp only [eop] at h
  cases ht : T t with
  | none => rw [ht] at h; exact False.elim h
  | some te =>
  rw [ht] at h
  have ok := hT t te ht
  have hu := ok.und
  have hx := R.ev x
  cases hxx : s.ev x <;> rw [hxx] at h hx <;> try exact False.elim h
  rename_i b off
  cases off with
  | succ _ => exact False.elim h
  | zero =>
  simp only at h
  cases hti : te.ti <;> rw [hti] at h hu <;> try exact False.elim h
  rename_i m e
  cases hh : hget s.hp b with
  | none => rw [hh] at h; exact False.elim h
  | some kk =>
  rw [hh] at h
  cases kk with
  | row _ _ => exact False.elim h
  | dead => exact False.elim h
  | box q cs =>
  simp only at h
  cases hfe : T e with
  | none => rw [hfe] at h; exact False.elim h
  | some ee =>
  rw [hfe] at h
  obtain ⟨h1, h2, h3, h⟩ := h
  have oke := hT e ee hfe
  have hl : live s.hp b := by unfold live; rw [hh]; trivial
  have hk := R.hp b
  unfold HR at hk
  rw [hh] at hk
  obtain ⟨β, c, fr, k1, k2, k3, k4, k5⟩ := hk
  have hv : a.eval x = .pointer (some ⟨β, 0, none⟩) := by
    cases hx with
    | data hx => cases hx
    | ref _ _ _ _ _ h5 =>
      obtain ⟨β', e1, e2⟩ := h5 q cs hh
      rw [k1] at e1
      cases e1
      exact e2
  obtain ⟨l, u, hK, q1, q2, q3⟩ := bounds_sound (P := P) (isS := false) (cap := m) R.ev (Nat.le_refl _) h
  have hrun : (execOp a.eval ⟨dst, .slice t x lo hi none, ty, pos, after, guard⟩).run P w = .ok (.value (.slice (some ⟨β, if m = l then 0 else l, none⟩) (u - l) (m - l))) w := by
    refine run_sem rfl ?_
    simp only [Instr.sliceAt, Sem.run_bind, run_underlying hu, Result.andThen_ok, Instr.sureAddr, hv, Sem.run_pure, Option.map_none, q3, run_size oke, h1, Nat.mul_one]
    split
    · rfl
    · simp only [addr_add, Nat.zero_add]
  have C := Chg.kill R (b := b) (by rw [hh]; simp)
  refine ⟨_, _, hK, fun next Q hn => ?_⟩
  unfold Oper.wp
  rw [hrun]
  refine hn _ w Γ C (.data ?_)
  have hA : ¬ Av V Γ ([(b, HC.dead)] ++ s.hp) β := fun hb => by
    have ho : ob (Γ b) = some β := by rw [k1]; rfl
    rcases hb with hb | ⟨k, l', o⟩
    · obtain ⟨p1, p2⟩ := R.vlt.1 β hb
      rcases R.own β ⟨b, hl, ho⟩ with p3 | p3
      · omega
      · exact p2 p3
    · exact (liveK l').1 (R.dis k b β (liveK l').2 hl o ho)
  by_cases hml : u = l
  · have he0 : (cs.take u).drop l = [] := List.eq_nil_of_length_eq_zero (by simp; omega)
    rw [he0, hml, Nat.sub_self]
    exact .far0 _ _
  · have hlen : ((cs.take u).drop l).length = u - l := by simp; omega
    have one : ∀ y ∈ cs, flat y = [y] := fun y hy => by
      have := List.all_eq_true.1 h3 y hy
      cases y <;> first | rfl | cases this
    have get : ∀ (i : Nat) (y : PV), ((cs.take u).drop l)[i]? = some y → cs[l + i]? = some y := fun i y hy => take_drop_get hy
    rw [if_neg (by omega), ← hlen]
    refine .far _ β l (m - l) 1 c q fr hA k2 (by rw [hlen]; omega) (fun i y hy => ?_) (fun i y j z hy hz1 => ?_) (fun i y j z hy hz1 => ?_)
    · rw [one y (List.mem_of_getElem? (get i y hy))]; rfl
    · have hy' := get i y hy
      rw [one y (List.mem_of_getElem? hy')] at hz1
      cases j with
      | succ j => simp at hz1
      | zero =>
        have := (List.getElem?_eq_some_iff.1 hy').1
        omega
    · have hy' := get i y hy
      rw [one y (List.mem_of_getElem? hy')] at hz1
      cases j with
      | succ j => simp at hz1
      | zero =>
        cases hz1
        rw [Nat.mul_one, Nat.add_zero]
        refine C.dr (dr_of (k5 _ _ hy') ?_)
        have := List.all_eq_true.1 h3 _ (List.mem_of_getElem? hy')
        cases y <;> first | rfl | cases this

theorem clr_get {xs : List PV} {lo hi sz i : Nat} {z : PV} (h1 : lo ≤ hi) (h2 : hi ≤ xs.length) (hz : (xs.take lo ++ List.replicate (hi - lo) (PV.agg (List.replicate sz .junk)) ++ xs.drop hi)[i]? = some z) :
    ((i < lo ∨ hi ≤ i) ∧ xs[i]? = some z) ∨ (lo ≤ i ∧ i < hi ∧ z = .agg (List.replicate sz .junk)) := by
  rw [List.append_assoc, List.getElem?_append] at hz
  have hl : (xs.take lo).length = lo := by rw [List.length_take]; omega
  split at hz
  · rename_i h
    rw [hl] at h
    rw [List.getElem?_take, if_pos h] at hz
    exact .inl ⟨.inl h, hz⟩
  · rename_i h
    rw [hl] at h hz
    rw [List.getElem?_append, List.length_replicate] at hz
    split at hz
    · rename_i h3
      rw [List.getElem?_replicate] at hz
      rw [if_pos h3] at hz
      exact .inr ⟨by omega, by omega, (Option.some.inj hz).symm⟩
    · rename_i h3
      rw [List.getElem?_drop] at hz
      rw [show hi + (i - lo - (hi - lo)) = i by omega] at hz
      exact .inl ⟨.inr (by omega), hz⟩

theorem eop_clear (hT : Tok P T) (R : RelG w0 V M Γ0 h0 Γ s a w) (args : Array Operand) (ts : Array TypeId) (h : eop T s.hp key s.ev K (.call ⟨.builtin .clear, args, ts⟩)) :
    ∃ u c, K u c ∧ OpSem P V Γ s.hp a w ⟨dst, .call ⟨.builtin .clear, args, ts⟩, ty, pos, after, guard⟩ u c := by
  obtain ⟨l⟩ := args
  obtain ⟨tl⟩ := ts
  match l, tl, h with
  | [], _, h => exact False.elim h
  | _ :: _ :: _, _, h => simp only [eop, List.map_cons] at h; cases hx : s.ev _ <;> rw [hx] at h <;> exact False.elim h
  | [x], [], h => simp only [eop, List.map_cons, List.map_nil] at h; cases hx : s.ev x <;> rw [hx] at h <;> exact False.elim h
  | [x], _ :: _ :: _, h => simp only [eop, List.map_cons, List.map_nil] at h; cases hx : s.ev x <;> rw [hx] at h <;> exact False.elim h
  | [x], [t], h =>
  simp only [eop, List.map_cons, List.map_nil] at h
  have hx := R.ev x
  cases hxx : s.ev x <;> rw [hxx] at h hx <;> try exact False.elim h
  rename_i g n lo hi
  simp only at h
  cases ht : T t with
  | none => rw [ht] at h; exact False.elim h
  | some te =>
  rw [ht] at h
  have okt := hT t te ht
  have hut := okt.und
  simp only at h
  cases hti : te.ti <;> rw [hti] at h hut <;> try exact False.elim h
  rename_i e
  simp only at h
  cases hfe : T e with
  | none => rw [hfe] at h; exact False.elim h
  | some ee =>
  rw [hfe] at h
  simp only at h
  have oke := hT e ee hfe
  cases hh : hget s.hp g with
  | none => rw [hh] at h; exact False.elim h
  | some kk =>
  rw [hh] at h
  cases kk with
  | box _ _ => exact False.elim h
  | dead => exact False.elim h
  | row sz xs =>
  obtain ⟨sz, tq⟩ := sz
  obtain ⟨hn, hsz, hlh, hhn, h⟩ := h
  simp only at hsz h
  subst hsz
  have hl : live s.hp g := by unfold live; rw [hh]; trivial
  have hk := R.hp g
  unfold HR at hk
  rw [hh] at hk
  obtain ⟨hs0, hk⟩ := hk
  have hs1 : 0 < ee.sz := hs0
  have hv : ∃ ad cap, Γ g = .slice ad n cap ∧ a.eval x = .slice (if cap = lo then ad else ad.map (·.add (lo * ee.sz))) (hi - lo) (cap - lo) := by
    cases hx with
    | data hx => cases hx
    | view _ _ _ _ _ _ _ h5 => exact ((h5 _ _ hh).2 hn).2.2
  obtain ⟨ad, cap, hΓ, hv⟩ := hv
  rcases hk with ⟨hk1, hk2⟩ | ⟨β, o, cap', c, et, fr, k1, k2, kq, k3, k4, k5, k6, k7⟩
  · subst hk1; simp only [List.length_nil] at hn; omega
  dsimp only at k3 k4 k5 k6 k7
  rw [hΓ] at k1
  simp only [Value.slice.injEq] at k1
  obtain ⟨rfl, _, rfl⟩ := k1
  have e1 : hi * ee.sz ≤ cap * ee.sz := Nat.mul_le_mul_right _ (by omega)
  have e2 : (hi - lo) * ee.sz + lo * ee.sz = hi * ee.sz := by rw [← Nat.add_mul]; congr 1; omega
  rw [if_neg (by omega), Option.map_some, addr_add] at hv
  obtain ⟨z1, z2⟩ := alloc_cells (w := w) (A := Av V Γ s.hp) oke
  have hz0 : ee.zval.cells.size = ee.sz := by rw [z1, oke.zero.1]
  have hzo : ∀ v ∈ ee.zval.cells.toList, v.oneCell' = true := fun v hv => by
    obtain ⟨i, hi'⟩ := List.mem_iff_getElem?.1 hv
    have hlt := (List.getElem?_eq_some_iff.1 hi').1
    rw [Array.length_toList, z1] at hlt
    have h3 := z2 i _ (List.getElem?_eq_getElem hlt)
    rw [getD_eq (v := v) (by rw [← Array.getElem?_toList]; exact hi')] at h3
    refine one_of (Γ := Γ) (hp := s.hp) (.data h3) ?_
    have h4 := oke.zero.2 _ (List.getElem_mem hlt)
    generalize ee.zero[i] = q at h4
    cases q <;> first | rfl | (cases h4; done) | exact h4
  have hzs : (Builtin.zeroCells ee.zval.cells (hi - lo)).toList.length = (hi - lo) * ee.sz := by rw [Array.length_toList, zeroCells_size, hz0]
  obtain ⟨w', c', g1, g2, g3, g4, g5, g6, g7, g8, g9⟩ := run_storeCells (P := P) (β := β) (o := o + lo * ee.sz) (Builtin.zeroCells ee.zval.cells (hi - lo)).toList 0 w c k2 (fun v hv' => by
    obtain ⟨i, hi'⟩ := List.mem_iff_getElem?.1 hv'
    have hlt := (List.getElem?_eq_some_iff.1 hi').1
    rw [hzs] at hlt
    rw [Array.getElem?_toList] at hi'
    have hv2 : v ∈ Builtin.zeroCells ee.zval.cells (hi - lo) := Array.mem_of_getElem? hi'
    unfold Builtin.zeroCells at hv2
    obtain ⟨q, hq, rfl⟩ := Array.mem_map.1 hv2
    refine hzo _ ?_
    have hm : q % ee.zval.cells.size < ee.zval.cells.size := Nat.mod_lt _ (by omega)
    rw [getElem!_pos ee.zval.cells _ hm]
    exact Array.mem_toList_iff.2 (Array.getElem_mem hm)) (by rw [hzs]; omega) (by rw [hzs]; exact fun i q1 q2 => k5 i (by omega) (by omega))
  have hlen2 : (xs.take lo ++ List.replicate (hi - lo) (PV.agg (List.replicate ee.sz .junk)) ++ xs.drop hi).length = xs.length := by
    simp only [List.length_append, List.length_take, List.length_replicate, List.length_drop]; omega
  have hrun : (execOp a.eval ⟨dst, .call ⟨.builtin .clear, ⟨[x]⟩, ⟨[t]⟩⟩, ty, pos, after, guard⟩).run P w = .ok (.value (.tuple #[])) w' := by
    simp only [execOp, resolve, Sem.run_bind, Sem.run_pure, Result.andThen_ok, invoke, builtin, List.map_toArray, List.map_cons, List.map_nil, hv]
    obtain ⟨m, hm⟩ : ∃ m, hi - lo = m + 1 := ⟨hi - lo - 1, by omega⟩
    rw [hm] at g1 ⊢
    simp [Builtin.clear_, run_underlying hut, run_zero oke, g1]
  refine ⟨_, _, h, fun next Q hnx => ?_⟩
  have hnew : hget ([(g, HC.row ⟨ee.sz, tq⟩ (xs.take lo ++ List.replicate (hi - lo) (PV.agg (List.replicate ee.sz .junk)) ++ xs.drop hi))] ++ s.hp) g = some (.row ⟨ee.sz, tq⟩ (xs.take lo ++ List.replicate (hi - lo) (PV.agg (List.replicate ee.sz .junk)) ++ xs.drop hi)) := by simp [hget]
  obtain ⟨Γ', C, _⟩ := Chg.edit (w' := w') (c' := .row ⟨ee.sz, tq⟩ (xs.take lo ++ List.replicate (hi - lo) (PV.agg (List.replicate ee.sz .junk)) ++ xs.drop hi)) (v' := Γ g) R hl g7 g8 g9 (by omega) (fun b _ hne => g5 b fun e => hne (by rw [hΓ, e]; rfl)) (.inl rfl)
    (fun sz' xs' h' => by cases h'; exact ⟨xs, hh, by omega, fun _ => rfl⟩) (fun _ _ h => by cases h) fun Γ' e1 _ lift => by
      unfold HR
      rw [hnew]
      dsimp only
      refine ⟨hs0, .inr ⟨β, o, cap, c', et, fr, by rw [e1, hΓ, hlen2, hn], g2, ⟨kq.1, by rw [g3]; exact kq.2⟩, by omega, by rw [g3]; exact k4, k5, fun i z hz => ?_, fun i z j q hz hq => ?_⟩⟩
      · rcases clr_get (by omega) (by omega) hz with ⟨_, h1⟩ | ⟨_, _, rfl⟩
        · exact k6 i z h1
        · show (List.replicate ee.sz PV.junk).length = _
          rw [List.length_replicate]
      · rcases clr_get (by omega) (by omega) hz with ⟨h0, h1⟩ | ⟨_, _, rfl⟩
        · have hj := (List.getElem?_eq_some_iff.1 hq).1
          have hzz := k6 i z h1
          rw [g4, hzs]
          rw [if_neg (by
            rintro ⟨p1, p2⟩
            rcases h0 with h0 | h0
            · have : (i + 1) * ee.sz ≤ lo * ee.sz := Nat.mul_le_mul_right _ (by omega)
              rw [Nat.succ_mul] at this
              omega
            · have : hi * ee.sz ≤ i * ee.sz := Nat.mul_le_mul_right _ h0
              omega)]
          exact lift _ _ (k7 i z j q h1 hq)
        · have hq' : (List.replicate ee.sz PV.junk)[j]? = some q := hq
          rw [List.getElem?_replicate] at hq'
          split at hq'
          · obtain rfl := Option.some.inj hq'
            exact .junk _
          · cases hq'
  unfold Oper.wp
  rw [hrun]
  exact hnx _ w' Γ' C (.data (.junk _))

end Go.Pv

/- Calls that only read what they are handed. -/
namespace Go.Pv
open Go.RowKit

variable {P : Program} {T : Tab} {w0 w w' : World} {Γ0 : Nat → Value} {h0 : Hp} {V M A A' : Bl} {Γ Γ' : Nat → Value} {hp hp' : Hp} {s : St} {a : Act}

/-- No slice in it that is only read. -/
def nf1 : PV → Bool
  | .far (_ :: _) | .fel _ | .fn _ _ | .tup _ | .agg _ => false
  | _ => true
def nf : PV → Bool
  | .agg xs => xs.all nf1
  | .tup xs => xs.all fun x => match x with
    | .agg ys => ys.all nf1
    | x => nf1 x
  | x => nf1 x
def NF (hp : Hp) : Prop := ∀ k c, (k, c) ∈ hp → match c with
  | .box _ cs => ∀ y ∈ cs, nf1 y = true
  | .row _ xs => ∀ x ∈ xs, ∀ y ∈ flat x, nf1 y = true
  | .dead => True

theorem dr_nf1 {x : PV} {v : Value} (h : DR w A x v) (hn : nf1 x = true) : DR w A' x v := by
  cases h with
  | far xs _ _ _ _ _ _ _ _ _ _ _ _ _ => cases xs <;> first | exact .far0 _ _ | simp [nf1] at hn
  | junk => exact .junk _
  | bool => exact .bool _
  | int => exact .int _ _
  | str => exact .str _
  | raw => exact .raw _
  | nilp => exact .nilp
  | nils => exact .nils
  | far0 => exact .far0 _ _
  | ifc => exact .ifc _ _
  | _ => simp [nf1] at hn

theorem vr_nf1 {x : PV} {v : Value} (h : VR w A Γ hp x v) (hn : nf1 x = true) : VR w A' Γ hp x v := by
  cases h with
  | data h => exact .data (dr_nf1 h hn)
  | row _ _ _ h1 h2 h3 => exact .row _ _ _ h1 h2 h3
  | view _ _ _ _ _ h1 h2 h3 => exact .view _ _ _ _ _ h1 h2 h3
  | elt _ _ _ _ _ h1 h2 h3 => exact .elt _ _ _ _ _ h1 h2 h3
  | ref _ _ _ h1 h2 h3 => exact .ref _ _ _ h1 h2 h3
  | _ => simp [nf1] at hn

theorem vr_aggs {xs : List PV} {v : Value} (h : VR w A Γ hp (.agg xs) v) (hx : ∀ y ∈ xs, nf1 y = true) : VR w A' Γ hp (.agg xs) v := by
  obtain ⟨cs, rfl, h1, h2⟩ := vr_agg h
  exact .agg xs cs h1 fun i x hi => vr_nf1 (h2 i x hi) (hx x (List.mem_of_getElem? hi))

theorem vr_nf {x : PV} {v : Value} (h : VR w A Γ hp x v) (hn : nf x = true) : VR w A' Γ hp x v := by
  cases x
  case agg xs => exact vr_aggs h (List.all_eq_true.1 hn)
  case tup xs =>
    obtain ⟨cs, rfl, h1, h2⟩ := vr_tup h
    refine .tup xs cs h1 fun i x hi => ?_
    have := List.all_eq_true.1 hn x (List.mem_of_getElem? hi)
    have hv := h2 i x hi
    cases x
    case agg ys => exact vr_aggs hv (List.all_eq_true.1 this)
    all_goals exact vr_nf1 hv this
  all_goals exact vr_nf1 h hn

theorem hget_mem {hp : Hp} {k : Nat} {c : HC} (h : hget hp k = some c) : (k, c) ∈ hp := by
  induction hp with
  | nil => simp [hget] at h
  | cons p r ih =>
    obtain ⟨j, x⟩ := p
    simp only [hget] at h
    split at h
    · rename_i e; cases h; subst e; exact List.mem_cons_self
    · exact List.mem_cons_of_mem _ (ih h)

theorem vr_fn {f : Go.Fn} {xs : List PV} {v : Value} (h : VR w A Γ hp (.fn f xs) v) : ∃ cs, v = .func f #[] cs ∧ cs.size = xs.length ∧ ∀ (i : Nat) (x : PV), xs[i]? = some x → VR w A Γ hp x (cs.getD i undef) := by
  cases h with
  | data h => cases h with | fn _ _ cs hl h => exact ⟨cs, rfl, hl, fun i x hx => .data (h i x hx)⟩
  | fn _ _ cs hl h => exact ⟨cs, rfl, hl, h⟩

theorem cvtl_get {f : PV → Option PV} : ∀ {xs ys : List PV}, cvtl f xs = some ys → xs.length = ys.length ∧ (∀ (i : Nat) (y : PV), ys[i]? = some y → ∃ x, xs[i]? = some x ∧ f x = some y)
  | [], ys, h => by simp only [cvtl, Option.some.injEq] at h; subst h; exact ⟨rfl, fun i y hy => by simp at hy⟩
  | x :: xs, ys, h => by
    simp only [cvtl] at h
    split at h
    · rename_i y0 ys0 h1 h2
      cases h
      obtain ⟨h3, h4⟩ := cvtl_get h2
      refine ⟨by simp [h3], fun i y hy => ?_⟩
      cases i with
      | zero => cases hy; exact ⟨x, rfl, h1⟩
      | succ i => exact h4 i y hy
    · contradiction

theorem idx_get : ∀ {κ : List Nat} {g i j : Nat}, idx κ g i = some j → i ≤ j ∧ κ[j - i]? = some g
  | [], g, i, j, h => by simp [idx] at h
  | k :: κ, g, i, j, h => by
    simp only [idx] at h
    split at h
    · rename_i e; cases h; subst e; exact ⟨Nat.le_refl _, by simp⟩
    · obtain ⟨h1, h2⟩ := idx_get h
      refine ⟨by omega, ?_⟩
      rw [show j - i = (j - (i + 1)) + 1 by omega]
      exact h2

/-- From the caller's memory to what a call gets: keys, blocks. -/
structure Hand (w : World) (V V' : Bl) (Γ Γc : Nat → Value) (hp ha : Hp) (K κ : List Nat) : Prop where
  gam : ∀ (j g : Nat), κ[j]? = some g → Γc j = Γ g
  row : ∀ (j g : Nat) (sz : Sz) (xs : List PV), κ[j]? = some g → hget ha j = some (.row sz xs) → hget hp g = some (.row sz xs)
  box : ∀ (j g : Nat) (q : TypeId) (cs : List PV), κ[j]? = some g → hget ha j = some (.box q cs) → ∃ bs, hget hp g = some (.box q bs)
  hs : ∀ (j g : Nat), κ[j]? = some g → hget ha j ≠ none
  avoid : ∀ b, Av V' Γc ha b → Av V Γ hp b ∧ ∀ k ∈ K, live hp k → ob (Γ k) ≠ some b

theorem cvt0_sound {V V' : Bl} {Γc : Nat → Value} {ha : Hp} {K κ : List Nat} (H : Hand w V V' Γ Γc hp ha K κ) {x y : PV} {v : Value} (hv : VR w (Av V Γ hp) Γ hp x v) (hr : ∀ k, HR w (Av V Γ hp) Γ hp k) (h : cvt0 hp K κ x = some y) : VR w (Av V' Γc ha) Γc ha y v := by
  have weak : ∀ {z u}, DR w (Av V Γ hp) z u → DR w (Av V' Γc ha) z u := fun hz => hz.step (fun _ _ _ => rfl) (fun b _ hb => (H.avoid b hb).1)
  have slices : ∀ (g : Nat) (xs : List PV), elems hp x = some xs → K.contains g = true → ((∃ n, x = .row g n) ∨ ∃ n lo hi, x = .view g n lo hi) → y = .far xs → VR w (Av V' Γc ha) Γc ha y v := fun g xs hxs hK hx hy => by
    subst hy
    obtain ⟨ad, cap, rfl, hc, hh⟩ := elems_vr hv hr hxs
    rcases hh with rfl | ⟨β, o, c, et, fr, sz, rfl, hw, hz, hm, hAA⟩
    · exact .data (.far0 _ _)
    · refine .data (.far xs β o cap sz c et fr (fun hb => ?_) hw hc hz (fun i x j y hx hy => (hm i x j y hx hy).1) (fun i x j y hx hy => weak (hm i x j y hx hy).2))
      obtain ⟨h1, h2⟩ := H.avoid β hb
      rcases hAA with hAA | ⟨g', n, hg, hl, ho⟩
      · exact hAA h1
      · have : g' = g := by
          rcases hx with ⟨_, rfl⟩ | ⟨_, _, _, rfl⟩ <;> rcases hg with hg | ⟨_, _, hg⟩ <;> cases hg <;> rfl
        subst this
        exact h2 g' (by simpa using hK) hl ho
  cases x
  case row g n =>
    simp only [cvt0] at h
    cases hi : idx κ g 0 with
    | none =>
      rw [hi] at h
      simp only at h
      split at h
      · rename_i hK
        obtain ⟨xs, h1, h2⟩ := Option.map_eq_some_iff.1 h
        exact slices g xs h1 hK (.inl ⟨n, rfl⟩) h2.symm
      · contradiction
    | some j =>
      rw [hi] at h
      cases h
      obtain ⟨_, hg⟩ := idx_get hi
      rw [Nat.sub_zero] at hg
      cases hv with
      | data hv => cases hv
      | row _ _ _ h1 h2 h3 => exact .row j n _ h1 (H.hs j g hg) fun sz xs e => by rw [H.gam j g hg]; exact h3 sz xs (H.row j g sz xs hg e)
  case view g n lo hi' =>
    simp only [cvt0] at h
    cases hi : idx κ g 0 with
    | none =>
      rw [hi] at h
      simp only at h
      split at h
      · rename_i hK
        obtain ⟨xs, h1, h2⟩ := Option.map_eq_some_iff.1 h
        exact slices g xs h1 hK (.inr ⟨n, lo, hi', rfl⟩) h2.symm
      · contradiction
    | some j =>
      rw [hi] at h
      cases h
      obtain ⟨_, hg⟩ := idx_get hi
      rw [Nat.sub_zero] at hg
      cases hv with
      | data hv => cases hv
      | view _ _ _ _ _ h1 h2 h3 => exact .view j n lo hi' _ h1 (H.hs j g hg) fun sz xs e => by rw [H.gam j g hg]; exact h3 sz xs (H.row j g sz xs hg e)
  case elt g n i off =>
    simp only [cvt0] at h
    cases hi : idx κ g 0 with
    | none => rw [hi] at h; contradiction
    | some j =>
      rw [hi] at h
      cases h
      obtain ⟨_, hg⟩ := idx_get hi
      rw [Nat.sub_zero] at hg
      cases hv with
      | data hv => cases hv
      | elt _ _ _ _ _ h1 h2 h3 => exact .elt j n i off _ h1 (H.hs j g hg) fun sz xs e => by rw [H.gam j g hg]; exact h3 sz xs (H.row j g sz xs hg e)
  case ref b off =>
    simp only [cvt0] at h
    cases hi : idx κ b 0 with
    | none => rw [hi] at h; contradiction
    | some j =>
      rw [hi] at h
      cases h
      obtain ⟨_, hg⟩ := idx_get hi
      rw [Nat.sub_zero] at hg
      cases hv with
      | data hv => cases hv
      | ref _ _ _ h1 h2 h3 => exact .ref j off _ h1 (H.hs j b hg) fun q cs e => (by obtain ⟨bs, hb⟩ := H.box j b q cs hg e; rw [H.gam j b hg]; exact h3 q bs hb)
  case junk => cases h; exact .data (.junk _)
  all_goals
    simp only [cvt0] at h
    split at h
    · rename_i hd
      cases h
      exact .data (weak (dr_of hv hd))
    · contradiction

theorem cvt1_sound {V V' : Bl} {Γc : Nat → Value} {ha : Hp} {K κ : List Nat} (H : Hand w V V' Γ Γc hp ha K κ) {x y : PV} {v : Value} (hv : VR w (Av V Γ hp) Γ hp x v) (hr : ∀ k, HR w (Av V Γ hp) Γ hp k) (h : cvt1 hp K κ x = some y) : VR w (Av V' Γc ha) Γc ha y v := by
  cases x
  case nils =>
    cases h
    rw [vr_nils hv]
    exact .data (.far0 _ _)
  case ref b off =>
    simp only [cvt1] at h
    cases hi : idx κ b 0 with
    | some j =>
      rw [hi] at h
      exact cvt0_sound H hv hr (by simp only [cvt0, hi]; exact h)
    | none =>
      rw [hi] at h
      simp only at h
      split at h
      · rename_i hK
        obtain ⟨ys, h1, rfl⟩ := Option.map_eq_some_iff.1 h
        obtain ⟨cs, hc, hd⟩ := Option.bind_eq_some_iff.1 h1
        obtain ⟨h4, h5⟩ := cvtl_get hd
        have H' : Hand w V V' Γ Γc hp ha K [] := ⟨fun j g h => by simp at h, fun j g sz xs h => by simp at h, fun j g q cs h => by simp at h, fun j g h => by simp at h, H.avoid⟩
        obtain ⟨β, o, c, e, fr, rfl, hw, hm⟩ := cellsAt_vr hv hr hc
        refine .data (.fel ys β o c e fr (fun hb => ?_) hw (fun j y hy => ?_) (fun j y hy => ?_))
        · obtain ⟨_, h7⟩ := H.avoid β hb
          cases hv with
          | data hv => cases hv
          | ref _ _ _ _ hg h6 =>
            cases hh : hget hp b with
            | none => exact hg hh
            | some kk =>
              cases kk with
              | box q bs =>
                obtain ⟨β', e1, e2⟩ := h6 q bs hh
                cases e2
                exact h7 b (by simpa using hK) (by unfold live; rw [hh]; trivial) (by rw [e1]; rfl)
              | row _ _ => simp [cellsAt, hh] at hc
              | dead => simp [cellsAt, hh] at hc
        · obtain ⟨x, hx, _⟩ := h5 j y hy
          exact (hm j x hx).1
        · obtain ⟨x, hx, hd'⟩ := h5 j y hy
          have hvr := cvt0_sound H' (hm j x hx).2 hr hd'
          have : data1 y = true ∨ y = .junk := by
            cases x <;> simp only [cvt0, idx] at hd' <;> first
              | (cases hd'; exact .inr rfl)
              | (split at hd' <;> first | contradiction | (cases hd'; left; assumption) | (obtain ⟨_, _, rfl⟩ := Option.map_eq_some_iff.1 hd'; exact .inl rfl))
              | contradiction
          rcases this with h8 | rfl
          · exact dr_of hvr h8
          · exact .junk _
      · contradiction
  all_goals exact cvt0_sound H hv hr h

theorem cvt_sound {V V' : Bl} {Γc : Nat → Value} {ha : Hp} {K κ : List Nat} (H : Hand w V V' Γ Γc hp ha K κ) {x y : PV} {v : Value} (hv : VR w (Av V Γ hp) Γ hp x v) (hr : ∀ k, HR w (Av V Γ hp) Γ hp k) (h : cvt hp K κ x = some y) : VR w (Av V' Γc ha) Γc ha y v := by
  cases x
  case agg xs =>
    obtain ⟨ys, h1, rfl⟩ := Option.map_eq_some_iff.1 h
    obtain ⟨cs, rfl, h2, h3⟩ := vr_agg hv
    obtain ⟨h4, h5⟩ := cvtl_get h1
    exact .agg ys cs (by omega) fun i y hy => by
      obtain ⟨x, hx, hd⟩ := h5 i y hy
      exact cvt1_sound H (h3 i x hx) hr hd
  case fn f xs =>
    obtain ⟨ys, h1, rfl⟩ := Option.map_eq_some_iff.1 h
    obtain ⟨h4, h5⟩ := cvtl_get h1
    obtain ⟨cs, rfl, hl, h3⟩ := vr_fn hv
    exact .fn f ys cs (by omega) fun i y hy => by
      obtain ⟨x, hx, hd⟩ := h5 i y hy
      exact cvt1_sound H (h3 i x hx) hr hd
  all_goals exact cvt1_sound H hv hr h

end Go.Pv

/- Calls: what comes back. -/
namespace Go.Pv
open Go.RowKit

variable {P : Program} {T : Tab} {w0 w w' : World} {Γ0 : Nat → Value} {h0 : Hp} {V M A A' : Bl} {Γ Γ' : Nat → Value} {hp hp' : Hp} {s : St} {a : Act}

def scal : PV → Bool
  | .agg _ | .tup _ | .fn _ _ => false
  | _ => true
def resOk : PV → Bool
  | .agg xs => xs.all scal
  | .tup xs => xs.all fun x => match x with
    | .agg ys => ys.all scal
    | x => scal x
  | x => scal x
def HpOk : Hp → Prop
  | [] => True
  | (_, .box _ cs) :: r => cs.all scal = true ∧ HpOk r
  | _ :: r => HpOk r
def KeysOk (hp : Hp) (m key : Nat) : Hp → Prop
  | [] => True
  | (k, _) :: r => (k < m ∨ 64 ≤ k ∧ hget hp (key + (k - 64)) = none) ∧ KeysOk hp m key r
def Mono (ha hr : Hp) : Nat → Prop
  | 0 => True
  | j + 1 => (match hget hr j with
    | some (.row sz xs') => ∃ xs, hget ha j = some (.row sz xs) ∧ xs.length ≤ xs'.length
    | some (.box q _) => ∃ cs, hget ha j = some (.box q cs)
    | _ => True) ∧ Mono ha hr j

theorem keysOk_get {hp : Hp} {m key : Nat} : ∀ {hr : Hp}, KeysOk hp m key hr → ∀ {j : Nat}, hget hr j ≠ none → j < m ∨ 64 ≤ j ∧ hget hp (key + (j - 64)) = none
  | [], _, j, h => absurd rfl h
  | (k, c) :: r, ⟨h1, h2⟩, j, h => by
    simp only [hget] at h
    split at h
    · rename_i e; subst e; exact h1
    · exact keysOk_get h2 h
theorem mono_get {ha hr : Hp} : ∀ {m : Nat}, Mono ha hr m → ∀ {j : Nat}, j < m → (∀ sz xs', hget hr j = some (.row sz xs') → ∃ xs, hget ha j = some (.row sz xs) ∧ xs.length ≤ xs'.length) ∧ (∀ q cs', hget hr j = some (.box q cs') → ∃ cs, hget ha j = some (.box q cs))
  | 0, _, j, h => by omega
  | m + 1, ⟨h1, h2⟩, j, h => by
    by_cases e : j = m
    · subst e
      refine ⟨fun sz xs' hh => ?_, fun q cs' hh => ?_⟩
      · rw [hh] at h1; exact h1
      · rw [hh] at h1; exact h1
    · exact mono_get h2 (by omega)
theorem hpOk_get : ∀ {hr : Hp}, HpOk hr → ∀ {j : Nat} {q : TypeId} {cs : List PV}, hget hr j = some (.box q cs) → cs.all scal = true
  | [], _, j, _, cs, h => by simp [hget] at h
  | (k, c) :: r, hok, j, _, cs, h => by
    simp only [hget] at h
    have hr' : HpOk r := by cases c <;> simp only [HpOk] at hok <;> first | exact hok.2 | exact hok
    split at h
    · cases h; exact hok.1
    · exact hpOk_get hr' h

def rkC (σ : Nat → Nat) : HC → HC
  | .box q cs => .box q (cs.map (rk1 σ))
  | c => c

theorem hget_rkH {σ : Nat → Nat} : ∀ {hr : Hp} {j : Nat}, (∀ i, hget hr i ≠ none → σ i = σ j → i = j) → hget (rkH σ hr) (σ j) = (hget hr j).map (rkC σ)
  | [], j, _ => rfl
  | (k, c) :: r, j, hi => by
    have e : rkH σ ((k, c) :: r) = (σ k, rkC σ c) :: rkH σ r := by cases c <;> rfl
    rw [e]
    simp only [hget]
    have hk := hi k (by simp [hget])
    by_cases h1 : j = k
    · subst h1; simp
    · rw [if_neg h1, if_neg (fun h => h1 (hk h.symm).symm)]
      exact hget_rkH fun i hne hs => hi i (by simp only [hget]; split <;> simp_all) hs
theorem hget_rkH_none {σ : Nat → Nat} : ∀ {hr : Hp} {k : Nat}, (∀ j, hget hr j ≠ none → σ j ≠ k) → hget (rkH σ hr) k = none
  | [], k, _ => rfl
  | (j, c) :: r, k, h => by
    have e : rkH σ ((j, c) :: r) = (σ j, rkC σ c) :: rkH σ r := by cases c <;> rfl
    rw [e]
    simp only [hget]
    rw [if_neg (fun h' => h j (by simp [hget]) h'.symm)]
    exact hget_rkH_none fun i hne hs => h i (by simp only [hget]; split <;> simp_all) hs

theorem hget_gone {hr : Hp} : ∀ {κ : List Nat} {j0 k : Nat}, κ.Nodup → hget (gone hr κ j0) k = match idx κ k j0 with
    | some j => if hget hr j = none then some .dead else none
    | none => none
  | [], j0, k, _ => rfl
  | g :: κ, j0, k, hn => by
    rw [List.nodup_cons] at hn
    simp only [gone, idx]
    have ih := hget_gone (hr := hr) (κ := κ) (j0 := j0 + 1) (k := k) hn.2
    by_cases e : k = g
    · subst e
      have hnone : idx κ k (j0 + 1) = none := by
        cases h : idx κ k (j0 + 1) with
        | none => rfl
        | some j => exact absurd (List.mem_of_getElem? (idx_get h).2) hn.1
      rw [hnone] at ih
      rw [if_pos rfl]
      cases hh : hget hr j0 with
      | none => simp [hget, hh]
      | some c => simp only [hh]; rw [ih]; simp
    · rw [if_neg e]
      cases hh : hget hr j0 with
      | none => simp only [hget]; rw [if_neg e]; exact ih
      | some c => simp only; exact ih

theorem idx_of {κ : List Nat} : ∀ {j i g : Nat}, κ.Nodup → κ[j]? = some g → idx κ g i = some (i + j) := by
  induction κ with
  | nil => intro j i g _ h; simp at h
  | cons k κ ih =>
    intro j i g hn h
    rw [List.nodup_cons] at hn
    simp only [idx]
    cases j with
    | zero => cases h; rw [if_pos rfl]; rfl
    | succ j =>
      rw [List.getElem?_cons_succ] at h
      rw [if_neg (fun (e : g = k) => hn.1 (by rw [← e]; exact List.mem_of_getElem? h)), ih hn.2 h]
      congr 1; omega

theorem hget_deads (K : List Nat) (k : Nat) : hget (K.map fun k => (k, HC.dead)) k = if k ∈ K then some .dead else none := by
  induction K with
  | nil => simp [hget]
  | cons g K ih =>
    simp only [List.map_cons, hget]
    by_cases e : k = g
    · rw [if_pos e, if_pos (by simp [e])]
    · rw [if_neg e, ih]; simp [e]

theorem hand_get {K κ0 : List Nat} : ∀ {κ : List Nat} {j0 : Nat} {ha : Hp}, hand hp K κ0 κ j0 = some ha → (∀ j c, hget ha j = some c → ∃ g, j0 ≤ j ∧ κ[j - j0]? = some g ∧ match c with
      | .box q ds => ∃ cs, hget hp g = some (.box q cs) ∧ cvtl (cvt0 hp K κ0) cs = some ds
      | .row sz xs => hget hp g = some (.row sz xs)
      | .dead => False) ∧ (∀ (j g : Nat), κ[j]? = some g → hget ha (j0 + j) ≠ none)
  | [], j0, ha, h => by
    simp only [hand, Option.some.injEq] at h
    subst h
    exact ⟨fun j c h => by simp [hget] at h, fun j g h => by simp at h⟩
  | k :: κ, j0, ha, h => by
    simp only [hand] at h
    split at h
    · rename_i cs h' e1 e2
      obtain ⟨ds, e3, rfl⟩ := Option.map_eq_some_iff.1 h
      obtain ⟨h1, h2⟩ := hand_get e2
      refine ⟨fun j c hc => ?_, fun j g hj => ?_⟩
      · simp only [hget] at hc
        split at hc
        · rename_i e; cases hc; subst e; exact ⟨k, Nat.le_refl _, by simp, cs, e1, e3⟩
        · obtain ⟨g, q1, q2, q3⟩ := h1 j c hc
          exact ⟨g, by omega, by rw [show j - j0 = (j - (j0 + 1)) + 1 by omega]; exact q2, q3⟩
      · cases j with
        | zero => simp [hget]
        | succ j =>
          simp only [hget]
          rw [if_neg (by omega)]
          have := h2 j g hj
          rwa [show j0 + 1 + j = j0 + (j + 1) by omega] at this
    · rename_i sz xs h' e1 e2
      cases h
      obtain ⟨h1, h2⟩ := hand_get e2
      refine ⟨fun j c hc => ?_, fun j g hj => ?_⟩
      · simp only [hget] at hc
        split at hc
        · rename_i e; cases hc; subst e; exact ⟨k, Nat.le_refl _, by simp, e1⟩
        · obtain ⟨g, q1, q2, q3⟩ := h1 j c hc
          exact ⟨g, by omega, by rw [show j - j0 = (j - (j0 + 1)) + 1 by omega]; exact q2, q3⟩
      · cases j with
        | zero => simp [hget]
        | succ j =>
          simp only [hget]
          rw [if_neg (by omega)]
          have := h2 j g hj
          rwa [show j0 + 1 + j = j0 + (j + 1) by omega] at this
    · contradiction

/-- Keys under new names. -/
theorem vr_rk1 {σ : Nat → Nat} {Γr : Nat → Value} {hr : Hp} (hσ : ∀ j, hget hr j ≠ none → hget hp' (σ j) = (hget hr j).map (rkC σ) ∧ Γ' (σ j) = Γr j) {x : PV} {v : Value} (h : VR w A Γr hr x v) (hs : scal x = true) : VR w A Γ' hp' (rk1 σ x) v := by
  have some_of : ∀ j, hget hr j ≠ none → hget hp' (σ j) ≠ none := fun j hj => by
    rw [(hσ j hj).1]
    cases e : hget hr j with
    | none => exact absurd e hj
    | some c => simp
  have row_of : ∀ j sz xs, hget hr j ≠ none → hget hp' (σ j) = some (.row sz xs) → hget hr j = some (.row sz xs) := fun j sz xs hj e => by
    rw [(hσ j hj).1] at e
    obtain ⟨c, h1, h2⟩ := Option.map_eq_some_iff.1 e
    cases c <;> simp only [rkC] at h2 <;> cases h2
    exact h1
  cases h with
  | data h => cases h <;> exact .data (by constructor <;> assumption)
  | agg _ _ _ _ => simp [scal] at hs
  | tup _ _ _ _ => simp [scal] at hs
  | fn _ _ _ _ _ => simp [scal] at hs
  | row g n _ h1 h2 h3 => exact .row _ _ _ h1 (some_of g h2) fun sz xs e => by rw [(hσ g h2).2]; exact h3 sz xs (row_of g sz xs h2 e)
  | view g n lo hi _ h1 h2 h3 => exact .view _ _ _ _ _ h1 (some_of g h2) fun sz xs e => by rw [(hσ g h2).2]; exact h3 sz xs (row_of g sz xs h2 e)
  | elt g n i off _ h1 h2 h3 => exact .elt _ _ _ _ _ h1 (some_of g h2) fun sz xs e => by rw [(hσ g h2).2]; exact h3 sz xs (row_of g sz xs h2 e)
  | ref b off _ h1 h2 h3 =>
    refine .ref _ _ _ h1 (some_of b h2) fun q cs e => ?_
    rw [(hσ b h2).1] at e
    obtain ⟨c, h4, h5⟩ := Option.map_eq_some_iff.1 e
    rw [(hσ b h2).2]
    cases c <;> simp only [rkC] at h5 <;> cases h5
    exact h3 _ _ h4

theorem vr_rk {σ : Nat → Nat} {Γr : Nat → Value} {hr : Hp} (hσ : ∀ j, hget hr j ≠ none → hget hp' (σ j) = (hget hr j).map (rkC σ) ∧ Γ' (σ j) = Γr j) {x : PV} {v : Value} (h : VR w A Γr hr x v) (hs : resOk x = true) : VR w A Γ' hp' (rk σ x) v := by
  have aggs : ∀ (xs : List PV) (v : Value), VR w A Γr hr (.agg xs) v → xs.all scal = true → VR w A Γ' hp' (.agg (xs.map (rk1 σ))) v := fun xs v h hs => by
    obtain ⟨cs, rfl, h1, h2⟩ := vr_agg h
    refine .agg _ cs (by simp [h1]) fun i x hx => ?_
    rw [List.getElem?_map, Option.map_eq_some_iff] at hx
    obtain ⟨y, hy, rfl⟩ := hx
    exact vr_rk1 hσ (h2 i y hy) (List.all_eq_true.1 hs y (List.mem_of_getElem? hy))
  cases x
  case agg xs => exact aggs xs v h hs
  case tup xs =>
    obtain ⟨cs, rfl, h1, h2⟩ := vr_tup h
    refine .tup _ cs (by simp [h1]) fun i x hx => ?_
    rw [List.getElem?_map, Option.map_eq_some_iff] at hx
    obtain ⟨y, hy, rfl⟩ := hx
    have hy' := List.all_eq_true.1 hs y (List.mem_of_getElem? hy)
    have hv := h2 i y hy
    cases y
    case agg ys => exact aggs ys _ hv hy'
    all_goals exact vr_rk1 hσ hv hy'
  all_goals exact vr_rk1 hσ h hs

/-- A call, in plain values. -/
def Call (P : Program) (hp : Hp) (key : Nat) (xs : List PV) (f : FuncId) (K : PV → Hp → Prop) : Prop :=
  ∃ (κ R : List Nat) (keep : Bool) (as : List PV) (ha : Hp) (res : PV) (hr : Hp), cvtl (cvt hp R κ) xs = some as ∧ hand hp R κ κ 0 = some ha ∧ Fn P f as ha res hr ∧ (κ.Nodup ∧ (∀ k ∈ κ, k ∉ R) ∧ κ.length ≤ 64) ∧ KeysOk hp κ.length key hr ∧ Mono ha hr κ.length ∧
    (resOk res = true ∧ HpOk hr) ∧ (keep = true → nf res = true ∧ NF hr) ∧ K (rk (sg κ key) res) (rkH (sg κ key) hr ++ gone hr κ 0 ++ (if keep then [] else R.map fun k => (k, .dead)))

theorem call_sound {K : PV → Hp → Prop} {key : Nat} {xs : List PV} {f : FuncId} {vs : Array Value} (R0 : RelG w0 V M Γ0 h0 Γ s a w) (h : Call P s.hp key xs f K) (hvs : vs.size = xs.length) (hv : ∀ (i : Nat) (x : PV), xs[i]? = some x → VR w (Av V Γ s.hp) Γ s.hp x (vs.getD i undef)) :
    Ent P f ∧ ∃ v c, K v c ∧ Calls P f vs w (fun e w' => ∃ vv Γ', e = .returned vv ∧ Chg V Γ Γ' s.hp (c ++ s.hp) w w' ∧ VR w' (Av V Γ' (c ++ s.hp)) Γ' (c ++ s.hp) v vv) := by
  obtain ⟨κ, R, keep, as, ha, res, hr, hcv, hha, ⟨hent, hF⟩, ⟨hnd, hκR, hκ64⟩, hkeys, hmono, ⟨hres, hhp⟩, hkeep, hK⟩ := h
  obtain ⟨ha1, ha2⟩ := hand_get hha
  obtain ⟨Γc, hΓc⟩ : ∃ Γc : Nat → Value, ∀ (j g : Nat), κ[j]? = some g → Γc j = Γ g := ⟨fun j => Γ (κ.getD j 0), fun j g hg => by simp only [List.getD_eq_getElem?_getD, hg]; rfl⟩
  have haget : ∀ j c, hget ha j = some c → ∃ g, κ[j]? = some g ∧ match c with
      | .box q ds => ∃ cs, hget s.hp g = some (.box q cs) ∧ cvtl (cvt0 s.hp R κ) cs = some ds
      | .row sz xs => hget s.hp g = some (.row sz xs)
      | .dead => False := fun j c hc => by
    obtain ⟨g, _, q2, q3⟩ := ha1 j c hc
    exact ⟨g, q2, q3⟩
  have halive : ∀ j, live ha j → ∃ g, κ[j]? = some g ∧ live s.hp g := fun j hl => by
    unfold live at hl
    cases hh : hget ha j with
    | none => rw [hh] at hl; exact hl.elim
    | some c =>
      rw [hh] at hl
      obtain ⟨g, q1, q2⟩ := haget j c hh
      refine ⟨g, q1, ?_⟩
      unfold live
      cases c with
      | dead => exact hl.elim
      | box q ds => obtain ⟨cs, q3, _⟩ := q2; rw [q3]; trivial
      | row sz xs => rw [q2]; trivial
  have κlive : ∀ (j g : Nat), κ[j]? = some g → live ha j ∧ live s.hp g := fun j g hj => by
    have h1 := ha2 j g hj
    rw [Nat.zero_add] at h1
    cases hh : hget ha j with
    | none => exact absurd hh h1
    | some c =>
      obtain ⟨g', q1, q2⟩ := haget j c hh
      rw [hj] at q1
      cases q1
      cases c with
      | dead => exact q2.elim
      | box q ds => obtain ⟨cs, q3, _⟩ := q2; exact ⟨by unfold live; rw [hh]; trivial, by unfold live; rw [q3]; trivial⟩
      | row sz xs => exact ⟨by unfold live; rw [hh]; trivial, by unfold live; rw [q2]; trivial⟩
  let V' : Bl := fun b => V b ∨ ∃ k, live s.hp k ∧ k ∉ R ∧ k ∉ κ ∧ ob (Γ k) = some b
  have ownV : ∀ b k, V b → live s.hp k → ob (Γ k) ≠ some b := fun b k hb hl ho => by
    obtain ⟨h1, h2⟩ := R0.vlt.1 b hb
    rcases R0.own b ⟨k, hl, ho⟩ with h3 | h3
    · omega
    · exact h2 h3
  have hcow : ∀ b, Ow Γc ha b → ∃ (j g : Nat), κ[j]? = some g ∧ live s.hp g ∧ ob (Γ g) = some b := fun b ⟨j, hl, ho⟩ => by
    obtain ⟨g, q1, q2⟩ := halive j hl
    exact ⟨j, g, q1, q2, by rw [← hΓc j g q1]; exact ho⟩
  have H : Hand w V V' Γ Γc s.hp ha R κ := by
    refine ⟨hΓc, fun j g sz xs hj he => ?_, fun j g q cs hj he => ?_, fun j g hj => ?_, fun b hb => ?_⟩
    · obtain ⟨g', q1, q2⟩ := haget j _ he
      rw [hj] at q1; cases q1; exact q2
    · obtain ⟨g', q1, cs', q2, _⟩ := haget j _ he
      rw [hj] at q1; cases q1; exact ⟨cs', q2⟩
    · have := ha2 j g hj; rwa [Nat.zero_add] at this
    · rcases hb with (hb | ⟨k, h1, h2, h3, h4⟩) | hb
      · exact ⟨.inl hb, fun k _ hl => ownV b k hb hl⟩
      · exact ⟨.inr ⟨k, h1, h4⟩, fun k' hk' hl ho => h2 (R0.dis k k' b h1 hl h4 ho ▸ hk')⟩
      · obtain ⟨j, g, q1, q2, q3⟩ := hcow b hb
        exact ⟨.inr ⟨g, q2, q3⟩, fun k' hk' hl ho => hκR g (List.mem_of_getElem? q1) (R0.dis g k' b q2 hl q3 ho ▸ hk')⟩
  obtain ⟨hl1, hcvg⟩ := cvtl_get hcv
  have hargs : ∀ (i : Nat) (x : PV), as[i]? = some x → VR w (Av V' Γc ha) Γc ha x (vs.getD i undef) := fun i y hy => by
    obtain ⟨x, hx, hxy⟩ := hcvg i y hy
    exact cvt_sound H (hv i x hx) R0.hp hxy
  have hHR : ∀ k, HR w (Av V' Γc ha) Γc ha k := fun j => by
    unfold HR
    cases hh : hget ha j with
    | none => trivial
    | some c =>
      obtain ⟨g, q1, q2⟩ := haget j c hh
      have hg := R0.hp g
      unfold HR at hg
      cases c with
      | dead => trivial
      | box q ds =>
        obtain ⟨cs, q3, q4⟩ := q2
        rw [q3] at hg
        obtain ⟨β, c, fr, h1, h2, h3, h4, h5⟩ := hg
        obtain ⟨q5, q6⟩ := cvtl_get q4
        exact ⟨β, c, fr, by rw [hΓc j g q1, h1], h2, by omega, h4, fun i y hy => by
          obtain ⟨x, hx, hxy⟩ := q6 i y hy
          exact cvt0_sound H (h5 i x hx) R0.hp hxy⟩
      | row sz xs =>
        rw [q2] at hg
        refine ⟨hg.1, hg.2.imp (fun ⟨h1, h2⟩ => ⟨h1, by rw [hΓc j g q1, h2]⟩) ?_⟩
        rintro ⟨β, o, cap, c, t, fr, h1, h2, hq, h3, h4, h5, h6, h7⟩
        exact ⟨β, o, cap, c, t, fr, by rw [hΓc j g q1, h1], h2, hq, h3, h4, h5, h6, fun i x j y hx hy => (h7 i x j y hx hy).step (fun _ _ _ => rfl) (fun b _ hb => (H.avoid b hb).1)⟩
  have hdis : Dis Γc ha := fun j j' b l l' e e' => by
    obtain ⟨g, q1, q2⟩ := halive j l
    obtain ⟨g', q1', q2'⟩ := halive j' l'
    rw [hΓc j g q1] at e
    rw [hΓc j' g' q1'] at e'
    have := R0.dis g g' b q2 q2' e e'
    subst this
    have h1 := idx_of (i := 0) hnd q1
    have h2 := idx_of (i := 0) hnd q1'
    rw [h1] at h2
    simp only [Option.some.injEq] at h2
    omega
  have hVlt : Vok w V' (Ow Γc ha) := ⟨fun b hb => by
    rcases hb with hb | ⟨k, h1, h2, h3, h4⟩
    · exact ⟨Nat.lt_of_lt_of_le (R0.vlt.1 b hb).1 R0.kp.size, fun ho => by obtain ⟨j, g, q1, q2, q3⟩ := hcow b ho; exact ownV b g hb q2 q3⟩
    · exact ⟨own_lt R0 h1 h4, fun ho => by obtain ⟨j, g, q1, q2, q3⟩ := hcow b ho; exact h3 (R0.dis k g b h1 q2 h4 q3 ▸ List.mem_of_getElem? q1)⟩,
    fun g cs hg => by
      obtain ⟨q1, q2, q3⟩ := R0.glo hg
      exact ⟨fun hb => hb.elim q1 fun ⟨k, h1, _, _, h4⟩ => q2 ⟨k, h1, h4⟩, fun ho => by obtain ⟨j, k, p1, p2, p3⟩ := hcow g ho; exact q2 ⟨k, p2, p3⟩, q3⟩⟩
  refine ⟨hent, _, _, hK, (hF w V' Γc vs hVlt (by omega) hargs hHR hdis).mono ?_⟩
  rintro e w' ⟨v, Γr, rfl, hkp, hvr, hhr, hdr, hown, hret⟩
  have hκget : ∀ j, j < κ.length → κ[j]? = some (κ.getD j 0) := fun j hj => by simp [hj]
  have σlow : ∀ j, j < κ.length → sg κ key j = κ.getD j 0 := fun j hj => by unfold sg; rw [if_pos (by omega)]
  have σhigh : ∀ j, 64 ≤ j → sg κ key j = key + (j - 64) := fun j hj => by unfold sg; rw [if_neg (by omega)]
  have κsome : ∀ (j g : Nat), κ[j]? = some g → hget s.hp g ≠ none := fun j g hj e => by have := (κlive j g hj).2; unfold live at this; rw [e] at this; exact this
  have inj : ∀ i j, hget hr i ≠ none → hget hr j ≠ none → sg κ key i = sg κ key j → i = j := fun i j hi hj e => by
    rcases keysOk_get hkeys hi with h1 | ⟨h1, h2⟩ <;> rcases keysOk_get hkeys hj with h3 | ⟨h3, h4⟩
    · rw [σlow i h1, σlow j h3] at e
      have e1 := idx_of (i := 0) hnd (hκget i h1)
      have e2 := idx_of (i := 0) hnd (hκget j h3)
      rw [e, e2] at e1
      simp only [Option.some.injEq] at e1
      omega
    · rw [σlow i h1, σhigh j h3] at e
      exact absurd (e ▸ h4) (κsome i _ (hκget i h1))
    · rw [σhigh i h1, σlow j h3] at e
      exact absurd (e ▸ h2) (κsome j _ (hκget j h3))
    · rw [σhigh i h1, σhigh j h3] at e; omega
  obtain ⟨Γ', hΓ1, hΓ2⟩ : ∃ Γ' : Nat → Value, (∀ j, hget hr j ≠ none → Γ' (sg κ key j) = Γr j) ∧ ∀ k, (∀ j, hget hr j ≠ none → sg κ key j ≠ k) → Γ' k = Γ k := by
    classical
    refine ⟨fun k => if h : ∃ j, hget hr j ≠ none ∧ sg κ key j = k then Γr h.choose else Γ k, fun j hj => ?_, fun k hk => ?_⟩
    · have he : ∃ i, hget hr i ≠ none ∧ sg κ key i = sg κ key j := ⟨j, hj, rfl⟩
      simp only [dif_pos he]
      rw [inj _ _ he.choose_spec.1 hj he.choose_spec.2]
    · exact dif_neg (fun ⟨j, h1, h2⟩ => hk j h1 h2)
  generalize hdd : (if keep = true then [] else R.map fun k => (k, HC.dead)) = dd
  have hdget : ∀ k, hget dd k = if keep = false ∧ k ∈ R then some .dead else none := fun k => by
    subst hdd
    cases keep with
    | true => simp [hget]
    | false => simp only [Bool.false_eq_true, if_false, true_and]; exact hget_deads R k
  have L1 : ∀ j, hget hr j ≠ none → hget (rkH (sg κ key) hr ++ gone hr κ 0 ++ dd ++ s.hp) (sg κ key j) = (hget hr j).map (rkC (sg κ key)) := fun j hj => by
    rw [List.append_assoc, List.append_assoc, hget_app, hget_rkH fun i hi e => inj i j hi hj e]
    cases e : hget hr j with
    | none => exact absurd e hj
    | some c => rfl
  have L2 : ∀ k, (∀ j, hget hr j ≠ none → sg κ key j ≠ k) → hget (rkH (sg κ key) hr ++ gone hr κ 0 ++ dd ++ s.hp) k = if k ∈ κ ∨ (keep = false ∧ k ∈ R) then some .dead else hget s.hp k := fun k hk => by
    rw [List.append_assoc, List.append_assoc, hget_app, hget_rkH_none hk]
    simp only
    rw [hget_app, hget_gone hnd]
    by_cases hkk : k ∈ κ
    · obtain ⟨j, hj⟩ := List.mem_iff_getElem?.1 hkk
      have hjl := (List.getElem?_eq_some_iff.1 hj).1
      rw [idx_of hnd hj, if_pos (.inl hkk)]
      simp only [Nat.zero_add]
      by_cases hn : hget hr j = none
      · rw [if_pos hn]
      · refine absurd ?_ (hk j hn)
        rw [σlow j hjl]
        simp only [List.getD_eq_getElem?_getD, hj, Option.getD_some]
    · have : idx κ k 0 = none := by
        cases h : idx κ k 0 with
        | none => rfl
        | some j => exact absurd (List.mem_of_getElem? (idx_get h).2) hkk
      rw [this]
      simp only
      rw [hget_app, hdget]
      by_cases hR : keep = false ∧ k ∈ R
      · rw [if_pos hR, if_pos (.inr hR)]
      · rw [if_neg hR, if_neg (fun h => h.elim hkk hR)]
  generalize hp2 : rkH (sg κ key) hr ++ gone hr κ 0 ++ dd ++ s.hp = hq at L1 L2
  have liveN : ∀ k, live hq k → (∃ j, live hr j ∧ sg κ key j = k) ∨ (k ∉ κ ∧ ¬ (keep = false ∧ k ∈ R) ∧ live s.hp k ∧ Γ' k = Γ k ∧ hget hq k = hget s.hp k) := fun k hl => by
    by_cases hk : ∃ j, hget hr j ≠ none ∧ sg κ key j = k
    · obtain ⟨j, h1, rfl⟩ := hk
      refine .inl ⟨j, ?_, rfl⟩
      unfold live at hl ⊢
      rw [L1 j h1] at hl
      cases e : hget hr j with
      | none => exact absurd e h1
      | some c => rw [e] at hl; cases c <;> first | trivial | exact hl
    · have hk' : ∀ j, hget hr j ≠ none → sg κ key j ≠ k := fun j h1 h2 => hk ⟨j, h1, h2⟩
      have e := L2 k hk'
      by_cases hc : k ∈ κ ∨ (keep = false ∧ k ∈ R)
      · rw [if_pos hc] at e; unfold live at hl; rw [e] at hl; exact hl.elim
      · rw [if_neg hc] at e
        exact .inr ⟨fun h => hc (.inl h), fun h => hc (.inr h), by unfold live at hl ⊢; rwa [e] at hl, hΓ2 k hk', e⟩
  have liveσ : ∀ j, live hr j → hget hr j ≠ none := fun j hl e => by unfold live at hl; rw [e] at hl; exact hl
  have kp : Kp (Ow Γ s.hp) w w' := hkp.widen fun b hb => by obtain ⟨j, g, q1, q2, q3⟩ := hcow b hb; exact ⟨g, q2, q3⟩
  have own : ∀ b, Ow Γ' hq b → w.heap.size ≤ b ∨ Ow Γ s.hp b := fun b ⟨k, hl, ho⟩ => by
    rcases liveN k hl with ⟨j, h1, rfl⟩ | ⟨_, _, h3, h4, _⟩
    · rw [hΓ1 j (liveσ j h1)] at ho
      rcases hown b ⟨j, h1, ho⟩ with h | h
      · exact .inl h
      · obtain ⟨j', g, q1, q2, q3⟩ := hcow b h; exact .inr ⟨g, q2, q3⟩
    · exact .inr ⟨k, h3, h4 ▸ ho⟩
  have σκ : ∀ (j g : Nat), hget hr j ≠ none → hget s.hp g ≠ none → sg κ key j = g → κ[j]? = some g := fun j g hj hg e => by
    rcases keysOk_get hkeys hj with h1 | ⟨h1, h2⟩
    · rw [σlow j h1] at e; rw [← e]; exact hκget j h1
    · rw [σhigh j h1] at e; exact absurd (e ▸ h2) hg
  have grow : Grow Γ Γ' s.hp hq := fun g hg => by
    by_cases hk : ∃ j, hget hr j ≠ none ∧ sg κ key j = g
    · obtain ⟨j, h1, h2⟩ := hk
      have h3 := σκ j g h1 hg h2
      have hjl := (List.getElem?_eq_some_iff.1 h3).1
      have hla := (κlive j g h3).1
      have hm := mono_get hmono hjl
      have hΓg : live hr j → Stay ha hr j → Γ' g = Γ g := fun hl hs => by have e0 := hΓ1 j h1; rw [h2] at e0; rw [e0, hret j hla hl hs, hΓc j g h3]
      have e := L1 j h1
      rw [h2] at e
      refine ⟨by rw [e]; exact fun hc => h1 (Option.map_eq_none_iff.1 hc), fun sz xs' he => ?_, fun q cs' he => ?_⟩
      · rw [e] at he
        obtain ⟨c, h4, h5⟩ := Option.map_eq_some_iff.1 he
        cases c <;> simp only [rkC] at h5 <;> cases h5
        obtain ⟨xs, h6, h7⟩ := hm.1 sz xs' h4
        obtain ⟨g', q1, q2⟩ := haget j _ h6
        rw [h3] at q1; cases q1
        exact ⟨xs, q2, h7, fun hle => hΓg (by unfold live; rw [h4]; trivial) (fun _ _ _ _ k1 k2 => by rw [h6] at k1; rw [h4] at k2; cases k1; cases k2; exact hle)⟩
      · rw [e] at he
        obtain ⟨c, h4, h5⟩ := Option.map_eq_some_iff.1 he
        cases c <;> simp only [rkC] at h5 <;> cases h5
        obtain ⟨cs, h6⟩ := hm.2 _ _ h4
        obtain ⟨g', q1, cs', q2, _⟩ := haget j _ h6
        rw [h3] at q1; cases q1
        exact ⟨hΓg (by unfold live; rw [h4]; trivial) (fun _ _ _ _ _ k2 => by rw [h4] at k2; cases k2), cs', q2⟩
    · have hk' : ∀ j, hget hr j ≠ none → sg κ key j ≠ g := fun j h1 h2 => hk ⟨j, h1, h2⟩
      have e := L2 g hk'
      rw [hΓ2 g hk']
      split at e
      · rw [e]; exact ⟨by simp, fun _ _ h => (by cases h), fun _ _ h => (by cases h)⟩
      · rw [e]; exact ⟨hg, fun sz xs h => ⟨xs, h, Nat.le_refl _, fun _ => rfl⟩, fun _ cs h => ⟨rfl, cs, h⟩⟩
  have avoid : keep = false → ∀ b, b < w'.heap.size → Av V Γ' hq b → Av V' Γr hr b := fun hkf b _ hb => by
    rcases hb with hb | ⟨k, hl, ho⟩
    · exact .inl (.inl hb)
    · rcases liveN k hl with ⟨j, h1, rfl⟩ | ⟨h1, h2, h3, h4, _⟩
      · rw [hΓ1 j (liveσ j h1)] at ho; exact .inr ⟨j, h1, ho⟩
      · exact .inl (.inr ⟨k, h3, fun h => h2 ⟨hkf, h⟩, h1, h4 ▸ ho⟩)
  have hσ : ∀ j, hget hr j ≠ none → hget hq (sg κ key j) = (hget hr j).map (rkC (sg κ key)) ∧ Γ' (sg κ key j) = Γr j := fun j hj => ⟨L1 j hj, hΓ1 j hj⟩
  have chg : Chg V Γ Γ' s.hp hq w w' := by
    refine ⟨kp, grow, own, fun k => ?_, fun k k' b l l' e e' => ?_⟩
    · by_cases hk : ∃ j, hget hr j ≠ none ∧ sg κ key j = k
      · obtain ⟨j, h1, rfl⟩ := hk
        have hj := hhr j
        have hvrA : ∀ {y u}, VR w' (Av V' Γr hr) Γr hr y u → (keep = true → nf1 y = true) → VR w' (Av V Γ' hq) Γr hr y u := fun hy hn => by
          cases hkk : keep with
          | true => exact vr_nf1 hy (hn hkk)
          | false => exact hy.step (fun _ _ _ => rfl) (avoid hkk)
        have hdrA : ∀ {y u}, DR w' (Av V' Γr hr) y u → (keep = true → nf1 y = true) → DR w' (Av V Γ' hq) y u := fun hy hn => by
          cases hkk : keep with
          | true => exact dr_nf1 hy (hn hkk)
          | false => exact hy.step (fun _ _ _ => rfl) (avoid hkk)
        unfold HR at hj ⊢
        rw [L1 j h1]
        cases hh : hget hr j with
        | none => exact absurd hh h1
        | some c =>
          rw [hh] at hj
          have hnf : keep = true → _ := fun hk => (hkeep hk).2 j c (hget_mem hh)
          cases c with
          | dead => trivial
          | box q cs =>
            obtain ⟨β, c, fr, q1, q2, q3, q4, q5⟩ := hj
            simp only [Option.map_some, rkC]
            refine ⟨β, c, fr, by rw [hΓ1 j h1, q1], q2, by simp [q3], q4, fun i y hy => ?_⟩
            rw [List.getElem?_map, Option.map_eq_some_iff] at hy
            obtain ⟨z, hz, rfl⟩ := hy
            exact vr_rk1 hσ (hvrA (q5 i z hz) fun hk => hnf hk z (List.mem_of_getElem? hz)) (List.all_eq_true.1 (hpOk_get hhp hh) z (List.mem_of_getElem? hz))
          | row sz xs =>
            simp only [Option.map_some, rkC]
            refine ⟨hj.1, hj.2.imp (fun ⟨q1, q2⟩ => ⟨q1, by rw [hΓ1 j h1, q2]⟩) ?_⟩
            rintro ⟨β, o, cap, c, t, fr, q1, q2, qq, q3, q4, q5, q6, q7⟩
            exact ⟨β, o, cap, c, t, fr, by rw [hΓ1 j h1, q1], q2, qq, q3, q4, q5, q6, fun i x l y hx hy => hdrA (q7 i x l y hx hy) fun hk => hnf hk x (List.mem_of_getElem? hx) y (List.mem_of_getElem? hy)⟩
      · have hk' : ∀ j, hget hr j ≠ none → sg κ key j ≠ k := fun j h1 h2 => hk ⟨j, h1, h2⟩
        have e := L2 k hk'
        split at e
        · unfold HR; rw [e]; trivial
        · rename_i hc
          exact hr_keep kp grow own e (hΓ2 k hk') (fun b hl ho hlt => hkp.block b hlt fun hO => by
            obtain ⟨j, g, q1, q2, q3⟩ := hcow b hO
            exact hc (.inl (R0.dis k g b hl q2 ho q3 ▸ List.mem_of_getElem? q1))) (R0.hp k)
    · rcases liveN k l with ⟨j, h1, rfl⟩ | ⟨h1, h2, h3, h4, _⟩ <;> rcases liveN k' l' with ⟨j', h1', rfl⟩ | ⟨h1', h2', h3', h4', _⟩
      · rw [hΓ1 j (liveσ j h1)] at e
        rw [hΓ1 j' (liveσ j' h1')] at e'
        rw [hdr j j' b h1 h1' e e']
      · rw [hΓ1 j (liveσ j h1)] at e
        rw [h4'] at e'
        rcases hown b ⟨j, h1, e⟩ with h | h
        · have := own_lt R0 h3' e'; omega
        · obtain ⟨i, g, q1, q2, q3⟩ := hcow b h
          exact absurd (R0.dis k' g b h3' q2 e' q3 ▸ List.mem_of_getElem? q1) h1'
      · rw [h4] at e
        rw [hΓ1 j' (liveσ j' h1')] at e'
        rcases hown b ⟨j', h1', e'⟩ with h | h
        · have := own_lt R0 h3 e; omega
        · obtain ⟨i, g, q1, q2, q3⟩ := hcow b h
          exact absurd (R0.dis k g b h3 q2 e q3 ▸ List.mem_of_getElem? q1) h1
      · rw [h4] at e; rw [h4'] at e'; exact R0.dis k k' b h3 h3' e e'
  refine ⟨v, Γ', rfl, chg, vr_rk hσ ?_ hres⟩
  cases hkk : keep with
  | true => exact vr_nf hvr (hkeep hkk).1
  | false => exact hvr.step (fun _ _ _ => rfl) (avoid hkk)

end Go.Pv

/- A function's text, in plain values. -/
namespace Go.Pv
open Go.RowKit

variable {P : Program} {T : Tab} {w0 w w' : World} {Γ0 : Nat → Value} {h0 : Hp} {V M A A' : Bl} {Γ Γ' : Nat → Value} {hp hp' : Hp} {s : St} {a : Act}

inductive PE where
  | normal
  | exit (id : Nat)
  | ret

def keyOf (s : St) : Option Tmp → Nat
  | some d => 64 * (d + 1)
  | none => 64 * (s.n + 1)
def dstOk (s : St) : Option Tmp → Prop
  | some d => d < s.n
  | none => True

instance (s : St) (d : Option Tmp) : Decidable (dstOk s d) := match d with
  | some d => inferInstanceAs (Decidable (d < s.n))
  | none => .isTrue trivial

/-- One operation: its value, and what it makes and turns. -/
def popv (P : Program) (T : Tab) (o : Oper) (K : PV → Hp → Prop) (s : St) : Prop := match o.op with
  | .store t x v => eop T s.hp (keyOf s o.dst) s.ev K (.store t x v)
  | .slice t x lo hi none => match s.ev x with
    | .ref _ _ => eop T s.hp (keyOf s o.dst) s.ev K (.slice t x lo hi none)
    | _ => qop T s.hp (keyOf s o.dst) s.ev (fun v c => (c.isEmpty || (hget s.hp (keyOf s o.dst)).isNone) = true ∧ K v c) (.slice t x lo hi none)
  | .call { callee := .builtin .append, args := args, argTypes := ts } => eop T s.hp (keyOf s o.dst) s.ev K (.call { callee := .builtin .append, args := args, argTypes := ts })
  | .call { callee := .builtin .clear, args := args, argTypes := ts } => eop T s.hp (keyOf s o.dst) s.ev K (.call { callee := .builtin .clear, args := args, argTypes := ts })
  | .call { callee := .value f, args := args, argTypes := _ } => match s.ev f with
    | .fn (.func g) caps => Call P s.hp (keyOf s o.dst) (args.toList.map s.ev ++ caps) g K
    | _ => False
  | op => qop T s.hp (keyOf s o.dst) s.ev (fun v c => (c.isEmpty || (hget s.hp (keyOf s o.dst)).isNone) = true ∧ K v c) op
/-- One operation, and its value put. -/
def pop (P : Program) (T : Tab) (o : Oper) (K : St → Prop) (s : St) : Prop := dstOk s o.dst ∧ popv P T o (fun v c => K (s.put o.dst v c)) s

/-- What it means: from a state that bears s to one that bears a state of K. -/
def SemOp (P : Program) (o : Oper) (s : St) (K : St → Prop) : Prop := ∀ (w0 : World) (V M : Bl) (Γ0 : Nat → Value) (h0 : Hp) (a : Act) (w : World), Rel w0 V M Γ0 h0 s a w →
  ∀ (next : Act → World → Prop) (Q : Exit → Act → World → Prop), (∀ s' a' w', K s' → Rel w0 V M Γ0 h0 s' a' w' → next a' w') → o.wp P a w next Q

theorem RelG.puts {s : St} {a : Act} {w w' : World} {Γ Γ' : Nat → Value} (R : RelG w0 V M Γ0 h0 Γ s a w) {c : Hp} (C : Chg V Γ Γ' s.hp (c ++ s.hp) w w') {dst : Option Tmp} (hd : dstOk s dst) {v : PV} {vv : Value} (hv : VR w' (Av V Γ' (c ++ s.hp)) Γ' (c ++ s.hp) v vv) :
    RelG w0 V M Γ0 h0 Γ' (s.put dst v c) (a.put dst vv) w' := by
  have R1 := C.rel R
  cases dst with
  | none => exact R1
  | some d => exact R1.put (s := { s with hp := c ++ s.hp }) hd hv

theorem sem_of_opsem {o : Oper} {K : St → Prop} (hd : dstOk s o.dst) (h : ∀ (w0 : World) (V M : Bl) (Γ0 : Nat → Value) (h0 : Hp) (Γ : Nat → Value) (a : Act) (w : World), RelG w0 V M Γ0 h0 Γ s a w → ∃ v c, K (s.put o.dst v c) ∧ OpSem P V Γ s.hp a w o v c) : SemOp P o s K := fun w0 V M Γ0 h0 a w ⟨Γ, R⟩ next Q hn => by
  obtain ⟨v, c, hK, hs⟩ := h w0 V M Γ0 h0 Γ a w R
  exact hs next Q fun vv w' Γ' C hv => hn _ _ _ hK ⟨Γ', R.puts C hd hv⟩

theorem popv_sound (hT : Tok P T) {o : Oper} {K : PV → Hp → Prop} (R : RelG w0 V M Γ0 h0 Γ s a w) (h : popv P T o K s) : ∃ v c, K v c ∧ OpSem P V Γ s.hp a w o v c := by
  have quiet : qop T s.hp (keyOf s o.dst) s.ev (fun v c => (c.isEmpty || (hget s.hp (keyOf s o.dst)).isNone) = true ∧ K v c) o.op → ∃ v c, K v c ∧ OpSem P V Γ s.hp a w o v c := fun h => by
    obtain ⟨v, c, ⟨h1, h2⟩, h3, h4⟩ := qop_sound hT R o h
    refine ⟨v, c, h2, (h4 fun hc => ?_).sem⟩
    cases c with
    | nil => exact absurd rfl hc
    | cons p c => simpa using h1
  obtain ⟨dst, op, ty, pos, after, guard⟩ := o
  cases op
  case store t x v => exact eop_store (key := keyOf s dst) hT R t x v h
  case slice t x lo hi mx =>
    cases mx with
    | some m => exact quiet h
    | none =>
      simp only [popv] at h
      cases hx : s.ev x <;> rw [hx] at h <;> first
        | exact quiet h
        | exact eop_slice (key := keyOf s dst) hT R t x lo hi h
  case call c =>
    obtain ⟨cal, args, ts⟩ := c
    cases cal with
    | invoke f m => exact quiet h
    | builtin b =>
      cases b
      case append =>
        obtain ⟨p, c, h1, h2⟩ := eop_append (dst := dst) (ty := ty) (pos := pos) (after := after) (guard := guard) hT R args ts h
        exact ⟨p, c, h1, h2⟩
      case clear =>
        obtain ⟨p, c, h1, h2⟩ := eop_clear (key := keyOf s dst) (dst := dst) (ty := ty) (pos := pos) (after := after) (guard := guard) hT R args ts h
        exact ⟨p, c, h1, h2⟩
      all_goals exact quiet h
    | value f =>
      simp only [popv] at h
      have hf := R.ev f
      cases hff : s.ev f <;> rw [hff] at h hf <;> try exact False.elim h
      rename_i fn caps
      cases fn <;> try exact False.elim h
      rename_i g
      obtain ⟨cs, e1, e2, e3⟩ := vr_fn hf
      obtain ⟨h1, v, c, h2, h3⟩ := call_sound (vs := args.map a.eval ++ cs) R h (by simp [e2]) (fun i x hx => by
        rw [List.getElem?_append] at hx
        split at hx
        · rename_i hi
          rw [List.getElem?_map, Option.map_eq_some_iff] at hx
          obtain ⟨y, hy, rfl⟩ := hx
          have hi' := (List.getElem?_eq_some_iff.1 hy).1
          rw [getD_eq (v := a.eval y) (by rw [Array.getElem?_append_left (by simpa using hi'), Array.getElem?_map, ← Array.getElem?_toList, hy]; rfl)]
          exact R.ev y
        · rename_i hi
          simp only [List.length_map, Array.length_toList] at hi hx
          have := e3 _ x hx
          rw [Array.getD_eq_getD_getElem?, Array.getElem?_append_right (by simp; omega)]
          rw [Array.getD_eq_getD_getElem?] at this
          simpa using this)
      refine ⟨v, c, h2, fun next Q hn => ?_⟩
      have hrun : (execOp a.eval ⟨dst, .call ⟨.value f, args, ts⟩, ty, pos, after, guard⟩).run P w = .ok (.enter g (args.map a.eval ++ cs)) w := by
        simp only [execOp, resolve, e1, Deferred.ofValue, Sem.run_bind, Sem.run_pure, Result.andThen_ok, invoke, Array.empty_append]
        exact h1 _ w
      unfold Oper.wp
      rw [hrun]
      refine h3.mono ?_
      rintro e w' ⟨vv, Γ', rfl, C, hv⟩
      exact hn vv w' Γ' C hv
  all_goals exact quiet h

theorem pop_sound (hT : Tok P T) {o : Oper} {K : St → Prop} (h : pop P T o K s) : SemOp P o s K :=
  sem_of_opsem h.1 fun _ _ _ _ _ _ _ _ R => popv_sound hT R h.2

/-- The operations of a region, in the order of the text. -/
def nth : List (Option Tmp) → Nat → Option Tmp
  | [], _ => none
  | d :: _, 0 => d
  | _ :: r, j + 1 => nth r j
def pops (P : Program) (T : Tab) (ds : List (Option Tmp)) (K : St → Prop) : List Oper → St → Prop
  | [], s => K s
  | o :: r, s => match o.guard with
    | none => pop P T o (pops P T ds K r) s
    | some (j, want) => match nth ds j with
      | some d => dstOk s o.dst ∧ match tget s.tm d with
        | .bool b => (b = want → pop P T o (pops P T ds K r) s) ∧ (b = !want → pops P T ds K r (s.put o.dst (.raw undef) []))
        | .raw (.tuple _) => pops P T ds K r (s.put o.dst (.raw undef) [])
        | _ => False
      | none => False
theorem nth_eq (j : Nat) : ∀ l : List Oper, nth (l.map (·.dst)) j = (l[j]?).bind (·.dst) := by
  induction j with
  | zero => intro l; cases l <;> rfl
  | succ j ih =>
    intro l
    cases l with
    | nil => rfl
    | cons o l => simp only [List.map_cons, nth, List.getElem?_cons_succ]; exact ih l

/-- What it means of a piece of code. -/
def Sem (P : Program) (c : Code) (s : St) (Q : PE → St → Prop) : Prop := ∀ (w0 : World) (V M : Bl) (Γ0 : Nat → Value) (h0 : Hp) (a : Act) (w : World), Rel w0 V M Γ0 h0 s a w →
  c.wp P (fun e a' w' => ∃ s', Rel w0 V M Γ0 h0 s' a' w' ∧ match e with
    | .normal => Q .normal s'
    | .exit i => Q (.exit i) s'
    | .ret => Q .ret s'
    | _ => False) a w

theorem pops_sound (hT : Tok P T) {ops : Array Oper} {ds : List (Option Tmp)} (hds : ds = ops.toList.map (·.dst)) {K : St → Prop} {Q : Exit → Act → World → Prop} (hK : ∀ s a w, K s → Rel w0 V M Γ0 h0 s a w → Q .normal a w) : ∀ (l : List Oper) (s : St) (a : Act) (w : World), pops P T ds K l s → Rel w0 V M Γ0 h0 s a w → wpList P ops Q l a w
  | [], s, a, w, h, R => hK s a w h R
  | o :: r, s, a, w, h, R => by
    have next : ∀ {s' : St}, pop P T o (pops P T ds K r) s' → ∀ a' w', Rel w0 V M Γ0 h0 s' a' w' → o.wp P a' w' (wpList P ops Q r) Q := fun h' a' w' R' => pop_sound hT h' w0 V M Γ0 h0 a' w' R' _ Q fun s2 a2 w2 h2 R2 => pops_sound hT hds hK r s2 a2 w2 h2 R2
    have skip : dstOk s o.dst → pops P T ds K r (s.put o.dst (.raw undef) []) → wpList P ops Q r (a.put o.dst undef) w := fun hd h' => by
      obtain ⟨Γ, R⟩ := R
      exact pops_sound hT hds hK r _ _ _ h' ⟨Γ, R.puts (Chg.same R rfl rfl rfl rfl) hd (.data (.raw _))⟩
    unfold wpList
    simp only [pops] at h
    cases hg : o.guard with
    | none =>
      rw [hg] at h
      rw [if_pos (by simp [Region.wanted, hg])]
      exact .inl (next h a w R)
    | some p =>
      obtain ⟨j, want⟩ := p
      rw [hg] at h
      simp only at h
      have hnth : nth ds j = (ops[j]?).bind (·.dst) := by rw [hds, nth_eq, Array.getElem?_toList]
      rw [hnth] at h
      cases hj : (ops[j]?).bind (·.dst) with
      | none => rw [hj] at h; exact False.elim h
      | some d =>
        rw [hj] at h
        obtain ⟨hd, h⟩ := h
        obtain ⟨Γ, R1⟩ := R
        have hv := R1.tm d
        have hy : ∀ b, a.tmps.getD d undef = .bool b → yielded ops a.tmps j = some b := fun b hb => by
          unfold yielded
          rw [hj]
          simp only [Option.bind_some]
          cases h0 : a.tmps[d]? with
          | none => rw [Array.getD_eq_getD_getElem?, h0] at hb; cases hb
          | some u => rw [Array.getD_eq_getD_getElem?, h0] at hb; simp only [Option.getD_some] at hb; subst hb; rfl
        cases htt : tget s.tm d <;> rw [htt] at h hv <;> try exact False.elim h
        case bool b =>
          have hyb := hy b (vr_bool hv)
          by_cases hbw : b = want
          · rw [if_pos (by simp [Region.wanted, hg, hyb, hbw])]
            exact .inl (next (h.1 hbw) a w ⟨Γ, R1⟩)
          · rw [if_neg (by simp [Region.wanted, hg, hyb, hbw])]
            exact skip hd (h.2 (by cases b <;> cases want <;> simp_all))
        case raw u =>
          cases u <;> try exact False.elim h
          rename_i vs
          have hu : a.tmps.getD d undef = .tuple vs := by
            generalize a.tmps.getD d undef = z at hv
            cases hv with | data hv => cases hv; rfl
          have hyn : yielded ops a.tmps j = none := by
            unfold yielded
            rw [hj]
            simp only [Option.bind_some]
            cases h0 : a.tmps[d]? with
            | none => rfl
            | some u => rw [Array.getD_eq_getD_getElem?, h0] at hu; simp only [Option.getD_some] at hu; subst hu; rfl
          rw [if_neg (by simp [Region.wanted, hg, hyn])]
          exact skip hd h

/-- A state that says less: fewer temporaries, fewer keys (those that are left under names of their own); an empty slice that is nil may get a key. -/
inductive VLe (σ : Nat → Nat) (dom : Nat → Prop) : PV → PV → Prop
  | junk (x : PV) : VLe σ dom .junk x
  | same (x : PV) (h : data1 x = true) : VLe σ dom x x
  | row (g n : Nat) (h : dom g) : VLe σ dom (.row g n) (.row (σ g) n)
  | view (g n lo hi : Nat) (h : dom g) : VLe σ dom (.view g n lo hi) (.view (σ g) n lo hi)
  | elt (g n i off : Nat) (h : dom g) : VLe σ dom (.elt g n i off) (.elt (σ g) n i off)
  | ref (b off : Nat) (h : dom b) : VLe σ dom (.ref b off) (.ref (σ b) off)
  | agg (xs ys : List PV) (hl : xs.length = ys.length) (h : ∀ (i : Nat) (x y : PV), xs[i]? = some x → ys[i]? = some y → VLe σ dom x y) : VLe σ dom (.agg xs) (.agg ys)
  | tup (xs ys : List PV) (hl : xs.length = ys.length) (h : ∀ (i : Nat) (x y : PV), xs[i]? = some x → ys[i]? = some y → VLe σ dom x y) : VLe σ dom (.tup xs) (.tup ys)
  | fn (f : Go.Fn) (xs ys : List PV) (hl : xs.length = ys.length) (h : ∀ (i : Nat) (x y : PV), xs[i]? = some x → ys[i]? = some y → VLe σ dom x y) : VLe σ dom (.fn f xs) (.fn f ys)

end Go.Pv

/- A function's text as a whole, in plain values: what it hands back. -/
namespace Go.Pv
open Go.RowKit

variable {P : Program} {T : Tab} {w0 w w' : World} {Γ0 : Nat → Value} {h0 : Hp} {V M A A' : Bl} {Γ Γ' : Nat → Value} {hp hp' : Hp} {s : St} {a : Act}

def pw (P : Program) (T : Tab) : Code → (PE → St → Prop) → St → Prop
  | .skip, Q, s => Q .normal s
  | .region id ops draw, Q, s => match draw with
    | false => pops P T (ops.toList.map (·.dst)) (Q .normal) ops.toList s
    | true => Sem P (.region id ops true) s Q
  | .seq x y, Q, s => pw P T x (fun e s' => match e with
    | .normal => pw P T y Q s'
    | .exit i => Q (.exit i) s'
    | .ret => Q .ret s') s
  | .cond c x y, Q, s => match s.ev c with
    | .bool b => (b = true → pw P T x Q s) ∧ (b = false → pw P T y Q s)
    | _ => False
  | .block id c, Q, s => pw P T c (fun e s' => match e with
    | .normal => Q .normal s'
    | .exit i => if i = id then Q .normal s' else Q (.exit i) s'
    | .ret => Q .ret s') s
  | .loop c, Q, s => Sem P (.loop c) s Q
  | .exit id, Q, s => Q (.exit id) s
  | .ret, Q, s => Q .ret s
  | _, _, _ => False

theorem pw_sound (hT : Tok P T) : ∀ (c : Code) (Q : PE → St → Prop) (s : St), pw P T c Q s → Sem P c s Q
  | .skip, Q, s, h => fun w0 V M Γ0 h0 a w R => wp_skip ⟨s, R, h⟩
  | .region id ops draw, Q, s, h => by
    cases draw with
    | true => exact h
    | false => exact fun w0 V M Γ0 h0 a w R => wp_region_list (pops_sound hT rfl (fun s a w hK R => ⟨s, R, hK⟩) _ s a w h R)
  | .seq x y, Q, s, h => fun w0 V M Γ0 h0 a w R => wp_seq (wp_mono (pw_sound hT x _ s h w0 V M Γ0 h0 a w R) fun e a' w' ⟨s', R', hq⟩ => by
      cases e <;> first
        | exact pw_sound hT y Q s' hq w0 V M Γ0 h0 a' w' R'
        | exact ⟨s', R', hq⟩
        | exact hq.elim)
  | .cond c x y, Q, s, h => fun w0 V M Γ0 h0 a w R => by
    simp only [pw] at h
    obtain ⟨Γ, R1⟩ := R
    have hc := R1.ev c
    cases hcc : s.ev c <;> rw [hcc] at h hc <;> try exact False.elim h
    exact wp_cond_split (vr_bool hc) (fun e => pw_sound hT x Q s (h.1 e) w0 V M Γ0 h0 a w ⟨Γ, R1⟩) (fun e => pw_sound hT y Q s (h.2 e) w0 V M Γ0 h0 a w ⟨Γ, R1⟩)
  | .block id c, Q, s, h => fun w0 V M Γ0 h0 a w R => wp_block (wp_mono (pw_sound hT c _ s h w0 V M Γ0 h0 a w R) fun e a' w' ⟨s', R', hq⟩ => by
      cases e
      case exit i =>
        simp only [Exit.inBlock] at hq ⊢
        split
        · rename_i e; rw [if_pos e] at hq; exact ⟨s', R', hq⟩
        · rename_i e; rw [if_neg e] at hq; exact ⟨s', R', hq⟩
      all_goals exact ⟨s', R', hq⟩)
  | .loop c, Q, s, h => h
  | .exit id, Q, s, h => fun w0 V M Γ0 h0 a w R => wp_exit ⟨s, R, h⟩
  | .ret, Q, s, h => fun w0 V M Γ0 h0 a w R => wp_ret ⟨s, R, h⟩
  | .rangeFunc _ _ _ _, _, _, h => h.elim
  | .scope _, _, _, h => h.elim
  | .label _, _, _, h => h.elim
  | .goto _, _, _, h => h.elim
  | .refuse _, _, _, h => h.elim

end Go.Pv
