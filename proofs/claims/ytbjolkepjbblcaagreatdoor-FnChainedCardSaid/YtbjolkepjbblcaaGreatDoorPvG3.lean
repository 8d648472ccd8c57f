/- The texts of this claim, part 3: a small logic of plain values for the model's runs, what it says of the functions, in plain values. -/
import Derived.Test.YtbjolkepjbblcaaGreatDoorPvG0
import Derived.Test.YtbjolkepjbblcaaGreatDoorPvG1
import Derived.Test.YtbjolkepjbblcaaGreatDoorPvG2
/- Disks, in plain numbers: nodes, entries, the texts of a row's files. -/
namespace Go.Mth
open Go.RowKit

abbrev Nd := Int × ByteArray × Int
abbrev Et := ByteArray × Int
abbrev Dk := List Nd × List Et × List Et × List ByteArray × Int × Int

/-- The place of the first that is so, from i on; -1 if none is. -/
def findI {α : Type} (p : α → Bool) : List α → Nat → Int
  | [], _ => -1
  | x :: r, i => if p x = true then i else findI p r (i + 1)
theorem findI_step {α : Type} [Inhabited α] (p : α → Bool) (xs : List α) (i : Nat) (h : i < xs.length) : findI p (xs.drop i) i = if p (xs.getD i default) = true then (i : Int) else findI p (xs.drop (i + 1)) (i + 1) := by
  rw [List.drop_eq_getElem_cons h, List.getD_eq_getElem?_getD, List.getElem?_eq_getElem h]; rfl
theorem findI_end {α : Type} (p : α → Bool) (xs : List α) (i : Nat) (h : xs.length ≤ i) : findI p (xs.drop i) i = -1 := by
  rw [List.drop_eq_nil_of_le h]; rfl
theorem findI_cases {α : Type} [Inhabited α] (p : α → Bool) : ∀ (xs : List α) (i : Nat), findI p xs i = -1 ∧ (∀ x ∈ xs, p x = false) ∨ ∃ k : Nat, findI p xs i = ((i + k : Nat) : Int) ∧ k < xs.length ∧ p (xs.getD k default) = true ∧ ∀ j, j < k → p (xs.getD j default) = false
  | [], i => .inl ⟨rfl, fun x h => by simp at h⟩
  | x :: r, i => by
    unfold findI
    cases hp : p x with
    | true =>
      rw [if_pos rfl]
      exact .inr ⟨0, rfl, by simp, by simpa using hp, fun j h => by omega⟩
    | false =>
      rw [if_neg (by simp)]
      rcases findI_cases p r (i + 1) with ⟨h1, h2⟩ | ⟨k, h1, h2, h3, h4⟩
      · exact .inl ⟨h1, fun y hy => by rcases List.mem_cons.1 hy with rfl | hy; exact hp; exact h2 y hy⟩
      · refine .inr ⟨k + 1, by rw [h1]; congr 1; omega, by simp; omega, by simpa using h3, fun j hj => ?_⟩
        cases j with
        | zero => simpa using hp
        | succ j => simpa using h4 j (by omega)
theorem findI_range {α : Type} [Inhabited α] (p : α → Bool) (xs : List α) : findI p xs 0 = -1 ∨ (0 ≤ findI p xs 0 ∧ findI p xs 0 < xs.length ∧ p (xs.getD (findI p xs 0).toNat default) = true) := by
  rcases findI_cases p xs 0 with ⟨h1, _⟩ | ⟨k, h1, h2, h3, _⟩
  · exact .inl h1
  · rw [h1]; exact .inr ⟨by omega, by omega, by simpa using h3⟩

def placeI (es : List Et) (n : ByteArray) : Int := findI (fun e => decide (e.1 = n)) es 0
def nodeI (ns : List Nd) (k : Int) : Int := findI (fun x => decide (x.1 = k)) ns 0
def noNd : Nd := (0, ⟨#[]⟩, 0)
theorem placeI_r (es : List Et) (n : ByteArray) : placeI es n = -1 ∨ (0 ≤ placeI es n ∧ placeI es n < es.length) := by
  rcases findI_range (fun e : Et => decide (e.1 = n)) es with h | ⟨h1, h2, _⟩
  · exact .inl h
  · exact .inr ⟨h1, h2⟩
theorem nodeI_r (ns : List Nd) (k : Int) : nodeI ns k = -1 ∨ (0 ≤ nodeI ns k ∧ nodeI ns k < ns.length) := by
  rcases findI_range (fun x : Nd => decide (x.1 = k)) ns with h | ⟨h1, h2, _⟩
  · exact .inl h
  · exact .inr ⟨h1, h2⟩
/-- The number of a name; 0 without one. -/
def entT (es : List Et) (n : ByteArray) : Int := if placeI es n < 0 then 0 else (es.getD (placeI es n).toNat default).2
/-- The place of the node of a name. -/
def nodeP (d : Dk) (n : ByteArray) : Int := if placeI d.2.1 n < 0 then -1 else nodeI d.1 (d.2.1.getD (placeI d.2.1 n).toNat default).2
theorem nodeP_r (d : Dk) (n : ByteArray) : nodeP d n = -1 ∨ (0 ≤ nodeP d n ∧ nodeP d n < d.1.length) := by
  unfold nodeP
  split
  · exact .inl rfl
  · exact nodeI_r _ _
def nodeT (d : Dk) (n : ByteArray) : Nd × Bool := if nodeP d n < 0 then (noNd, false) else (d.1.getD (nodeP d n).toNat default, true)
def fileT (d : Dk) (n : ByteArray) : ByteArray × Bool := ((nodeT d n).1.2.1, (nodeT d n).2)
def textT (d : Dk) (b : Int) : ByteArray := (fileT d (segT b)).1

/-- How large a disk is. -/
structure DkOk (d : Dk) : Prop where
  ns : d.1.length ≤ 1048576
  es : d.2.1.length ≤ 1048576
  os : d.2.2.1.length ≤ 1048576
  ss : d.2.2.2.1.length ≤ 1048576
  nt : ∀ n ∈ d.1, n.2.1.size ≤ 1048576
  et : ∀ e ∈ d.2.1, e.1.size ≤ 1048576
  ot : ∀ e ∈ d.2.2.1, e.1.size ≤ 1048576
  st : ∀ s ∈ d.2.2.2.1, s.size ≤ 1048576
theorem fileT_le {d : Dk} (h : DkOk d) (n : ByteArray) : (fileT d n).1.size ≤ 1048576 := by
  unfold fileT nodeT
  split
  · exact Nat.zero_le _
  · rename_i hn
    refine h.nt _ ?_
    rcases nodeP_r d n with h1 | ⟨h1, h2⟩
    · omega
    · simp only
      rw [List.getD_eq_getElem?_getD, List.getElem?_eq_getElem (by omega)]
      exact List.getElem_mem _
theorem textT_le {d : Dk} (h : DkOk d) (b : Int) : (textT d b).size ≤ 1048576 := fileT_le h _

/-! ### the files that go on from one another -/
def recs (b : ByteArray) : List ByteArray := (scan b).2.2.2.2.2.1
def goOk (t : ByteArray) (b l : Int) : Prop := ((rHead t).2.2.2.2 = true ∧ (rHead t).2.2.1 = b ∧ (rHead t).2.2.2.1 = l) ∧ 0 < (recs t).length
instance (t : ByteArray) (b l : Int) : Decidable (goOk t b l) := inferInstanceAs (Decidable (_ ∧ _))
def chGo (d : Dk) : Nat → Int → Int → List Int
  | 0, _, _ => []
  | k + 1, b, l => if goOk (textT d b) b l then b :: chGo d k (b + (recs (textT d b)).length) (linkAll l (recs (textT d b))) else []
def chainT (d : Dk) : List Int := chGo d 16 0 0
theorem chGo_length (d : Dk) : ∀ (k : Nat) (b l : Int), (chGo d k b l).length ≤ k
  | 0, _, _ => Nat.le_refl _
  | k + 1, b, l => by
    unfold chGo
    split
    · rw [List.length_cons]; have := chGo_length d k (b + (recs (textT d b)).length) (linkAll l (recs (textT d b))); omega
    · exact Nat.zero_le _
theorem chainT_length (d : Dk) : (chainT d).length ≤ 16 := chGo_length d 16 0 0
/-- One file more. -/
theorem chGo_snoc (d : Dk) (L : List Int) (b l : Int) (h : chainT d = L ++ chGo d (16 - L.length) b l) (hl : L.length < 16) (hg : goOk (textT d b) b l) :
    chainT d = (L ++ [b]) ++ chGo d (16 - (L ++ [b]).length) (b + (recs (textT d b)).length) (linkAll l (recs (textT d b))) := by
  rw [h, show 16 - L.length = (16 - (L ++ [b]).length) + 1 by rw [List.length_append, List.length_singleton]; omega]
  conv => lhs; unfold chGo
  rw [if_pos hg, List.append_assoc]; rfl
theorem chGo_stop (d : Dk) (L : List Int) (b l : Int) (h : chainT d = L ++ chGo d (16 - L.length) b l) (hg : 16 ≤ L.length ∨ ¬ goOk (textT d b) b l) : chainT d = L := by
  rw [h]
  by_cases hl : 16 ≤ L.length
  · rw [show 16 - L.length = 0 by omega]; simp [chGo]
  · rw [show 16 - L.length = (15 - L.length) + 1 by omega]
    unfold chGo
    rw [if_neg (hg.resolve_left hl), List.append_nil]
theorem recs_le (b : ByteArray) : (recs b).length ≤ b.size ∧ (∀ r ∈ recs b, r.size ≤ 60) := ⟨(scan_f b).2.2.2.2.1, (scan_f b).2.2.2.2.2.1⟩
theorem chGo_range {d : Dk} (h : DkOk d) : ∀ (k : Nat) (b l : Int), 0 ≤ b → ∀ x ∈ chGo d k b l, 0 ≤ x ∧ x ≤ b + 1048576 * k
  | 0, _, _, _, x, hx => by simp [chGo] at hx
  | k + 1, b, l, hb, x, hx => by
    unfold chGo at hx
    split at hx
    · rcases List.mem_cons.1 hx with rfl | hx
      · omega
      · have h1 := (recs_le (textT d b)).1
        have h2 := textT_le h b
        have := chGo_range h k (b + (recs (textT d b)).length) (linkAll l (recs (textT d b))) (by omega) x hx
        omega
    · simp at hx
theorem chainT_range {d : Dk} (h : DkOk d) : ∀ x ∈ chainT d, 0 ≤ x ∧ x ≤ 16777216 := fun x hx => by
  have := chGo_range h 16 0 0 (Int.le_refl _) x hx
  omega
theorem rHead_no0 (b : ByteArray) (h : ¬ (rHead b).2.2.2.2 = true) : rHead b = (0, 0, 0, 0, false) := by
  unfold rHead at h ⊢
  split
  · rfl
  · split
    · rename_i h1 h2
      rw [if_neg h1, if_pos h2] at h
      exact absurd rfl h
    · rfl
theorem scan_ver (b : ByteArray) : (scan b).2.1 = (rHead b).1 := by
  unfold scan
  split
  · rfl
  · rename_i h; rw [rHead_no0 b h]
theorem scan_link (b : ByteArray) : (scan b).2.2.2.2.1 = (rHead b).2.2.2.1 := by
  unfold scan
  split
  · rfl
  · rename_i h; rw [rHead_no0 b h]
def rowT (d : Dk) : List ByteArray := (chainT d).flatMap fun b => recs (textT d b)
def textsT (d : Dk) : List ByteArray := (chainT d).map (textT d)
def behindT (d : Dk) (b : Int) : List Int := (chainT d).filter fun x => decide (b < x)
theorem flat_le (d : Dk) (h : DkOk d) : ∀ l : List Int, (l.flatMap fun b => recs (textT d b)).length ≤ 1048576 * l.length ∧ ∀ r ∈ (l.flatMap fun b => recs (textT d b)), r.size ≤ 60
  | [] => ⟨by simp, fun r h => by simp at h⟩
  | b :: l => by
    obtain ⟨h1, h2⟩ := flat_le d h l
    obtain ⟨h3, h4⟩ := recs_le (textT d b)
    have h5 := textT_le h b
    rw [List.flatMap_cons, List.length_append, List.length_cons]
    refine ⟨by omega, fun r hr => ?_⟩
    rcases List.mem_append.1 hr with hr | hr
    · exact h4 r hr
    · exact h2 r hr
/-! ### digits, as they are laid -/
theorem hexL_zero : ∀ k : Nat, hexL k 0 = List.replicate k 48
  | 0 => rfl
  | k + 1 => by
    rw [hexL, show (0 : Int) / 16 = 0 by rfl, hexL_zero k, show hexD ((0 : Int) % 16) = 48 by rfl, List.replicate_succ']
theorem hexL_pad : ∀ (k m : Nat) (n : Int), 0 ≤ n → n < 16 ^ k → hexL (k + m) n = List.replicate m 48 ++ hexL k n
  | 0, m, n, h0, h1 => by
    have : n = 0 := by simp at h1; omega
    subst this
    rw [Nat.zero_add, hexL_zero]
    simp [hexL]
  | k + 1, m, n, h0, h1 => by
    have hp : n / 16 < 16 ^ k := by rw [Int.pow_succ] at h1; omega
    rw [show k + 1 + m = (k + m) + 1 by omega, hexL, hexL, hexL_pad k m (n / 16) (by omega) hp, List.append_assoc]
/-- Digits that are laid from the lowest on: u is what is left of n behind the digits of L. -/
structure Hx (n u : Int) (L : List Int) : Prop where
  cut : ∀ k, hexL (k + L.length) n = hexL k u ++ L
  val : n < 16 ^ L.length * (u + 1)
  low : 0 ≤ u
  top : 16 ^ L.length * u ≤ n
  one : L = [] ∨ 1 ≤ u
theorem Hx.start {n : Int} (h : 0 ≤ n) : Hx n n [] := ⟨fun k => by simp, by simp; omega, h, by simp, .inl rfl⟩
theorem Hx.step {n u : Int} {L : List Int} (h : Hx n u L) (hu : 16 ≤ u) : Hx n (u / 16) (hexD (u % 16) :: L) := by
  have hp : (0 : Int) < 16 ^ L.length := Int.pow_pos (by decide)
  refine ⟨fun k => ?_, ?_, by omega, ?_, .inr (by omega)⟩
  · rw [List.length_cons, show k + (L.length + 1) = (k + 1) + L.length by omega, h.cut, hexL, List.append_assoc]; rfl
  · rw [List.length_cons, Int.pow_succ, Int.mul_assoc]
    exact Int.lt_of_lt_of_le h.val (Int.mul_le_mul_of_nonneg_left (by omega) (by omega))
  · rw [List.length_cons, Int.pow_succ, Int.mul_assoc]
    exact Int.le_trans (Int.mul_le_mul_of_nonneg_left (by omega) (by omega)) h.top
theorem Hx.len {n u : Int} {L : List Int} (h : Hx n u L) (hn : n < 4294967296) : L.length ≤ 7 := by
  rcases h.one with h1 | h2
  · subst h1; simp
  · refine Decidable.byContradiction fun hc => ?_
    have h1 := h.top
    have e : ((16 ^ 8 : Nat) : Int) ≤ ((16 ^ L.length : Nat) : Int) := Int.ofNat_le.2 (Nat.pow_le_pow_right (by decide) (by omega))
    rw [Int.natCast_pow] at e
    have h3 : (16 : Int) ^ L.length * 1 ≤ 16 ^ L.length * u := Int.mul_le_mul_of_nonneg_left h2 (by have : (0 : Int) < 16 ^ L.length := Int.pow_pos (by decide); omega)
    have h4 : ((16 ^ 8 : Nat) : Int) = 4294967296 := by rfl
    have h5 : ((16 ^ L.length : Nat) : Int) = (16 : Int) ^ L.length := Int.natCast_pow 16 L.length
    omega
theorem Hx.le {n u : Int} {L : List Int} (h : Hx n u L) : u ≤ n := by
  have hp : (0 : Int) < 16 ^ L.length := Int.pow_pos (by decide)
  have h1 : 1 * u ≤ 16 ^ L.length * u := Int.mul_le_mul_of_nonneg_right (by omega) h.low
  have := h.top
  omega
/-- All digits laid. -/
theorem Hx.fin {n u : Int} {L : List Int} (h : Hx n u L) (hu : u < 16) : hexD u :: L = hexL (L.length + 1) n ∧ n < 16 ^ (L.length + 1) := by
  have e := h.cut 1
  have h0 := h.low
  rw [show 1 + L.length = L.length + 1 by omega, show hexL 1 u = [hexD (u % 16)] from rfl, show u % 16 = u by omega] at e
  refine ⟨e.symm, ?_⟩
  have hp : (0 : Int) < 16 ^ L.length := Int.pow_pos (by decide)
  rw [Int.pow_succ]
  exact Int.lt_of_lt_of_le h.val (Int.mul_le_mul_of_nonneg_left (by omega) (by omega))
end Go.Mth

/- Deeds on disks, in plain numbers. -/
namespace Go.Mth
open Go.RowKit

/-! ### right names -/
def nmB (x : Int) : Prop := (97 ≤ x ∧ x ≤ 122) ∨ (48 ≤ x ∧ x ≤ 57) ∨ x = 46 ∨ x = 45
instance (x : Int) : Decidable (nmB x) := inferInstanceAs (Decidable (_ ∨ _))
def nmOk (b : ByteArray) : Prop := (∀ i : Nat, i < b.size → nmB (bt b i)) ∧ 1 ≤ b.size ∧ b.size ≤ 20
instance (b : ByteArray) : Decidable (nmOk b) := inferInstanceAs (Decidable (_ ∧ _))

/-! ### decimals -/
def decN : Int → List Int → Option Int
  | a, [] => some a
  | a, x :: r => if 48 ≤ x ∧ x ≤ 57 then decN (10 * a + (x - 48)) r else none
theorem decN_step (a : Int) (L : List Int) (i : Nat) (h : i < L.length) : decN a (L.drop i) = if 48 ≤ L.getD i default ∧ L.getD i default ≤ 57 then decN (10 * a + (L.getD i default - 48)) (L.drop (i + 1)) else none := by
  rw [List.drop_eq_getElem_cons h, List.getD_eq_getElem?_getD, List.getElem?_eq_getElem h]; rfl
def decL : Nat → Int → List Int
  | 0, _ => []
  | k + 1, n => if n = 0 then [] else decL k (n / 10) ++ [48 + n % 10]
def decT (n : Int) : ByteArray := if n = 0 then strOf [48] else strOf (decL 20 n)
theorem decL_range : ∀ (k : Nat) (n : Int), ∀ x ∈ decL k n, 48 ≤ x ∧ x ≤ 57
  | 0, _, x, h => by simp [decL] at h
  | k + 1, n, x, h => by
    unfold decL at h
    split at h
    · simp at h
    · rcases List.mem_append.1 h with h | h
      · exact decL_range k _ x h
      · rw [List.mem_singleton] at h; omega
theorem decL_len : ∀ (k : Nat) (n : Int), (decL k n).length ≤ k
  | 0, _ => Nat.le_refl _
  | k + 1, n => by
    unfold decL
    split
    · exact Nat.zero_le _
    · rw [List.length_append, List.length_singleton]
      have := decL_len k (n / 10)
      omega
/-- A decimal of a number that is at most 1000000000. -/
def rdec (t : ByteArray) : Int × Bool := match decN 0 (bytesOf t) with
  | some n => if t.size ≤ 10 ∧ n ≤ 1000000000 ∧ decT n = t then (n, true) else (0, false)
  | none => (0, false)

/-! ### entries -/
def hasT (L : List Et) (n : ByteArray) : Prop := 0 ≤ placeI L n
instance (L : List Et) (n : ByteArray) : Decidable (hasT L n) := inferInstanceAs (Decidable (_ ≤ _))
def dropT (L : List Et) (n : ByteArray) : List Et := L.filter fun e => decide (e.1 ≠ n)
def sLt (a b : ByteArray) : Bool := Op.bytesLess a.toList b.toList
/-- With an entry more: ahead of the first that is not below it, and in the place of those of its name. -/
def putG (e : Et) : Bool → List Et → List Et
  | d, [] => if d then [] else [e]
  | d, x :: r => (if d = false ∧ sLt x.1 e.1 = false then [e] else []) ++ (if x.1 = e.1 then [] else [x]) ++ putG e (d || !sLt x.1 e.1) r
def putT (L : List Et) (e : Et) : List Et := putG e false L

/-! ### steps -/
def colI (s : ByteArray) : Int := findI (fun x : Int => decide (x = 58)) ((bytesOf s).drop 1) 1
/-- What a step says: a name, another one, a number, and whether it is right. -/
def stT (s : ByteArray) : ByteArray × ByteArray × Int × Bool :=
  if s.size < 2 ∨ (bt s 0 ≠ 43 ∧ bt s 0 ≠ 45 ∧ bt s 0 ≠ 62) then (⟨#[]⟩, ⟨#[]⟩, 0, false)
  else if bt s 0 = 45 then (s.extract 1 s.size, ⟨#[]⟩, 0, true)
  else if colI s < 0 then (⟨#[]⟩, ⟨#[]⟩, 0, false)
  else if bt s 0 = 62 then (s.extract 1 (colI s).toNat, s.extract ((colI s).toNat + 1) s.size, 0, decide (nmOk (s.extract ((colI s).toNat + 1) s.size)) && !decide (s.extract 1 (colI s).toNat = s.extract ((colI s).toNat + 1) s.size))
  else (s.extract 1 (colI s).toNat, ⟨#[]⟩, (rdec (s.extract ((colI s).toNat + 1) s.size)).1, (rdec (s.extract ((colI s).toNat + 1) s.size)).2 && decide (nmOk (s.extract 1 (colI s).toNat)))
/-- The entries behind a step. -/
def sdT (L : List Et) (s : ByteArray) : Option (List Et) :=
  if (stT s).2.2.2 = true ∧ nmOk (stT s).1 ∧ (bt s 0 = 43 ∨ hasT L (stT s).1) then
    some (if bt s 0 = 43 then putT L ((stT s).1, (stT s).2.2.1) else if bt s 0 = 45 then dropT L (stT s).1 else putT (dropT L (stT s).1) ((stT s).2.1, if bt s 0 = 62 then entT L (stT s).1 else (stT s).2.2.1))
  else none
def sgT : List Et → List ByteArray → List Et × Bool
  | L, [] => (L, true)
  | L, s :: r => match sdT L s with
    | some L2 => sgT L2 r
    | none => ([], false)
theorem sgT_step (L : List Et) (S : List ByteArray) (i : Nat) (h : i < S.length) : sgT L (S.drop i) = match sdT L (S.getD i default) with
    | some L2 => sgT L2 (S.drop (i + 1))
    | none => ([], false) := by
  rw [List.drop_eq_getElem_cons h, List.getD_eq_getElem?_getD, List.getElem?_eq_getElem h]; rfl
/-- The entries behind the first k steps. -/
def stepsT (d : Dk) (k : Nat) : List Et × Bool := sgT d.2.2.1 (d.2.2.2.1.take k)

/-! ### right disks -/
def usedT (d : Dk) : Int := (d.1.map fun x => (x.2.1.size : Int)).sum
def entsOk (d : Dk) (L : List Et) : Prop := (∀ i : Nat, i < L.length → nmOk (L.getD i default).1 ∧ 0 ≤ nodeI d.1 (L.getD i default).2 ∧ (0 < i → sLt (L.getD (i - 1) default).1 (L.getD i default).1 = true)) ∧ L.length ≤ 16
instance (d : Dk) (L : List Et) : Decidable (entsOk d L) := inferInstanceAs (Decidable (_ ∧ _))
def nodesOk (d : Dk) : Prop := ∀ i : Nat, i < d.1.length → (1 ≤ (d.1.getD i default).1 ∧ (d.1.getD i default).1 ≤ d.2.2.2.2.2 - 1) ∧ (0 ≤ (d.1.getD i default).2.2 ∧ (d.1.getD i default).2.2 ≤ (d.1.getD i default).2.1.size) ∧ (0 < i → (d.1.getD (i - 1) default).1 < (d.1.getD i default).1)
instance (d : Dk) : Decidable (nodesOk d) := by unfold nodesOk; infer_instance
def stepsOk (d : Dk) : Prop := ∀ k : Nat, k < d.2.2.2.1.length + 1 → (stepsT d k).2 = true ∧ entsOk d (stepsT d k).1 ∧ (k = d.2.2.2.1.length → (stepsT d k).1 = d.2.1)
instance (d : Dk) : Decidable (stepsOk d) := by unfold stepsOk; infer_instance
def diskOk (d : Dk) : Prop := (d.1.length ≤ 64 ∧ (0 ≤ d.2.2.2.2.1 ∧ d.2.2.2.2.1 ≤ 1000000000) ∧ (1 ≤ d.2.2.2.2.2 ∧ d.2.2.2.2.2 ≤ 1000000000) ∧ usedT d ≤ d.2.2.2.2.1) ∧ nodesOk d ∧ stepsOk d
instance (d : Dk) : Decidable (diskOk d) := inferInstanceAs (Decidable (_ ∧ _))

/-! ### deeds -/
def usedB (d : Dk) (id : Int) : Prop := ∃ k : Nat, k < d.2.2.2.1.length + 1 ∧ ∃ e ∈ (stepsT d k).1, e.2 = id
instance (d : Dk) (id : Int) : Decidable (usedB d id) := by unfold usedB; infer_instance
def cleanT (d : Dk) : Dk := (d.1.filter fun x => decide (usedB d x.1), d.2)
def createT (d : Dk) (n : ByteArray) : Dk × Int :=
  if ¬ diskOk d then (d, 3) else if ¬ nmOk n then (d, 1) else if hasT d.2.1 n then (d, 2)
  else if 16 ≤ d.2.1.length ∨ 64 ≤ d.1.length ∨ 1000000000 ≤ d.2.2.2.2.2 then (d, 4)
  else (cleanT (d.1 ++ [(d.2.2.2.2.2, ⟨#[]⟩, 0)], putT d.2.1 (n, d.2.2.2.2.2), d.2.2.1, d.2.2.2.1 ++ [strOf [43] ++ n ++ strOf [58] ++ decT d.2.2.2.2.2], d.2.2.2.2.1, d.2.2.2.2.2 + 1), 0)
def setNd (d : Dk) (k : Nat) (x : Nd) : Dk := (d.1.set k x, d.2)
def appendT (d : Dk) (n t : ByteArray) : Dk × Int :=
  if ¬ diskOk d ∨ ¬ hasT d.2.1 n then (d, 3)
  else if (t.size : Int) > d.2.2.2.2.1 - usedT d then (setNd d (nodeI d.1 (entT d.2.1 n)).toNat ((d.1.getD (nodeI d.1 (entT d.2.1 n)).toNat default).1, (d.1.getD (nodeI d.1 (entT d.2.1 n)).toNat default).2.1 ++ t.extract 0 (d.2.2.2.2.1 - usedT d).toNat, (d.1.getD (nodeI d.1 (entT d.2.1 n)).toNat default).2.2), 5)
  else (setNd d (nodeI d.1 (entT d.2.1 n)).toNat ((d.1.getD (nodeI d.1 (entT d.2.1 n)).toNat default).1, (d.1.getD (nodeI d.1 (entT d.2.1 n)).toNat default).2.1 ++ t, (d.1.getD (nodeI d.1 (entT d.2.1 n)).toNat default).2.2), 0)
def syncT (d : Dk) (n : ByteArray) : Dk × Int :=
  if ¬ diskOk d ∨ ¬ hasT d.2.1 n then (d, 3)
  else (setNd d (nodeI d.1 (entT d.2.1 n)).toNat ((d.1.getD (nodeI d.1 (entT d.2.1 n)).toNat default).1, (d.1.getD (nodeI d.1 (entT d.2.1 n)).toNat default).2.1, (d.1.getD (nodeI d.1 (entT d.2.1 n)).toNat default).2.1.size), 0)
def renameT (d : Dk) (a b : ByteArray) : Dk × Int :=
  if ¬ diskOk d ∨ ¬ hasT d.2.1 a then (d, 3) else if ¬ nmOk b ∨ a = b then (d, 1)
  else (cleanT (d.1, putT (dropT d.2.1 a) (b, entT d.2.1 a), d.2.2.1, d.2.2.2.1 ++ [strOf [62] ++ a ++ strOf [58] ++ b], d.2.2.2.2), 0)
def removeT (d : Dk) (n : ByteArray) : Dk × Int :=
  if ¬ diskOk d ∨ ¬ hasT d.2.1 n then (d, 3)
  else (cleanT (d.1, dropT d.2.1 n, d.2.2.1, d.2.2.2.1 ++ [strOf [45] ++ n], d.2.2.2.2), 0)
def syncNamesT (d : Dk) : Dk := if ¬ diskOk d then d else cleanT (d.1, d.2.1, d.2.1, [], d.2.2.2.2)
def newT (r : Int) : Dk := ([], [], [], [], if r < 0 then 0 else r, 1)
end Go.Mth

/- Laws of rows and of deeds, in plain numbers. -/
namespace Go.Mth
open Go.RowKit

theorem diskOk_ents {d : Dk} (h : diskOk d) : entsOk d d.2.1 := by
  obtain ⟨h1, h2, h3⟩ := h.2.2 d.2.2.2.1.length (Nat.lt_succ_self _)
  rw [h3 rfl] at h2
  exact h2
theorem entT_has (L : List Et) (n : ByteArray) (h : hasT L n) : ∃ i : Nat, i < L.length ∧ entT L n = (L.getD i default).2 := by
  unfold hasT at h
  rcases placeI_r L n with h1 | ⟨h1, h2⟩
  · omega
  · exact ⟨(placeI L n).toNat, by omega, by unfold entT; rw [if_neg (by omega)]⟩
/-- The node of a name of a right disk is there. -/
theorem node_there {d : Dk} {n : ByteArray} (h : diskOk d) (hn : hasT d.2.1 n) : 0 ≤ nodeI d.1 (entT d.2.1 n) ∧ nodeI d.1 (entT d.2.1 n) < d.1.length := by
  obtain ⟨i, hi, e⟩ := entT_has _ _ hn
  have h1 := ((diskOk_ents h).1 i hi).2.1
  rw [← e] at h1
  rcases nodeI_r d.1 (entT d.2.1 n) with h2 | h2
  · omega
  · exact h2
end Go.Mth

/- Disks made of constants, in plain numbers. -/
namespace Go.Mth
open Go.RowKit

def nm0 : ByteArray := ⟨#[115, 48, 48, 48, 48, 48, 48, 48, 48, 46, 115, 101, 103]⟩
def st0 : ByteArray := ⟨#[43, 115, 48, 48, 48, 48, 48, 48, 48, 48, 46, 115, 101, 103, 58, 49]⟩
def one : ByteArray := ⟨#[97]⟩
def dk0 (t : ByteArray) : Dk := ([(1, t, 0)], [(nm0, 1)], [], [st0], 500, 2)
set_option maxRecDepth 100000 in
set_option synthInstance.maxHeartbeats 200000 in
set_option synthInstance.maxSize 1000 in
theorem create0 : createT (newT 500) nm0 = (dk0 ⟨#[]⟩, 0) := by decide +kernel
set_option maxRecDepth 100000 in
set_option synthInstance.maxHeartbeats 200000 in
set_option synthInstance.maxSize 1000 in
theorem dk0_ok : diskOk (dk0 ⟨#[]⟩) ∧ hasT (dk0 ⟨#[]⟩).2.1 nm0 ∧ usedT (dk0 ⟨#[]⟩) = 0 ∧ nodeI (dk0 ⟨#[]⟩).1 (entT (dk0 ⟨#[]⟩).2.1 nm0) = 0 := by decide +kernel
theorem append0 (t : ByteArray) (h : t.size ≤ 500) : appendT (dk0 ⟨#[]⟩) nm0 t = (dk0 t, 0) := by
  obtain ⟨h1, h2, h3, h4⟩ := dk0_ok
  unfold appendT
  rw [if_neg (by simp [h1, h2]), h3, h4, if_neg (by show ¬ ((t.size : Int) > 500 - 0); omega)]
  show (setNd (dk0 ⟨#[]⟩) 0 (1, ⟨#[]⟩ ++ t, 0), (0 : Int)) = _
  rw [show (⟨#[]⟩ : ByteArray) ++ t = t from ByteArray.empty_append]
  rfl
set_option maxRecDepth 100000 in
set_option synthInstance.maxHeartbeats 200000 in
set_option synthInstance.maxSize 1000 in
theorem seg01 : segT 0 = nm0 ∧ segT 1 ≠ nm0 := by decide +kernel
theorem text0 (t : ByteArray) : textT (dk0 t) 0 = t := by
  unfold textT
  rw [seg01.1]
  rfl
theorem text1 (t : ByteArray) : textT (dk0 t) 1 = ⟨#[]⟩ := by
  have h := seg01.2
  unfold textT
  generalize segT 1 = n at *
  have hp : placeI (dk0 t).2.1 n = -1 := by
    show (if decide (nm0 = n) then (0 : Int) else -1) = -1
    rw [if_neg (by rw [decide_eq_false (fun e => h e.symm)]; decide)]
  unfold fileT nodeT nodeP
  rw [hp]
  rfl
theorem chain0 (t : ByteArray) (h : goOk t 0 0) (h1 : (recs t).length = 1) : chainT (dk0 t) = [0] := by
  have he : ¬ goOk ⟨#[]⟩ 1 (linkAll 0 (recs t)) := by
    rintro ⟨_, h⟩
    revert h
    decide +kernel
  unfold chainT chGo
  rw [text0, if_pos h, h1]
  show 0 :: chGo (dk0 t) 15 1 _ = _
  unfold chGo
  rw [text1, if_neg he]
end Go.Mth

/- Bounds of what deeds make, in plain numbers. -/
namespace Go.Mth
open Go.RowKit
set_option linter.unusedVariables false

theorem colI_def (s : ByteArray) : colI s = findI (fun x : Int => decide (x = 58)) ((bytesOf s).drop 1) 1 := rfl
def stNo (s : ByteArray) : Prop := s.size < 2 ∨ (bt s 0 ≠ 43 ∧ bt s 0 ≠ 45 ∧ bt s 0 ≠ 62)
theorem stT_A (s : ByteArray) (h : stNo s) : stT s = (⟨#[]⟩, ⟨#[]⟩, 0, false) := if_pos h
theorem stT_B (s : ByteArray) (h : ¬ stNo s) (h2 : bt s 0 = 45) : stT s = (s.extract 1 s.size, ⟨#[]⟩, 0, true) := by
  unfold stNo at h; unfold stT; rw [if_neg h, if_pos h2]
theorem stT_C (s : ByteArray) (h : ¬ stNo s) (h2 : ¬ bt s 0 = 45) (h3 : colI s = -1) : stT s = (⟨#[]⟩, ⟨#[]⟩, 0, false) := by
  unfold stNo at h; unfold stT; rw [if_neg h, if_neg h2, if_pos (by omega)]
theorem stT_D (s : ByteArray) (h : ¬ stNo s) (h2 : bt s 0 = 62) (c : Nat) (h3 : colI s = (c : Int)) : stT s = (s.extract 1 c, s.extract (c + 1) s.size, 0, decide (nmOk (s.extract (c + 1) s.size)) && !decide (s.extract 1 c = s.extract (c + 1) s.size)) := by
  unfold stNo at h; unfold stT; rw [if_neg h, if_neg (by omega), if_neg (by omega), if_pos h2, h3, Int.toNat_natCast]
theorem stT_E (s : ByteArray) (h : ¬ stNo s) (h2 : bt s 0 = 43) (c : Nat) (h3 : colI s = (c : Int)) : stT s = (s.extract 1 c, ⟨#[]⟩, (rdec (s.extract (c + 1) s.size)).1, (rdec (s.extract (c + 1) s.size)).2 && decide (nmOk (s.extract 1 c))) := by
  unfold stNo at h; unfold stT; rw [if_neg h, if_neg (by omega), if_neg (by omega), if_neg (by omega), h3, Int.toNat_natCast]
theorem ex_le (s : ByteArray) (i j : Nat) : (s.extract i j).size ≤ s.size := by rw [ByteArray.size_extract]; omega
theorem putG_step (e : Et) (d : Bool) (L : List Et) (i : Nat) (h : i < L.length) : putG e d (L.drop i) = (if d = false ∧ sLt (L.getD i default).1 e.1 = false then [e] else []) ++ (if (L.getD i default).1 = e.1 then [] else [L.getD i default]) ++ putG e (d || !sLt (L.getD i default).1 e.1) (L.drop (i + 1)) := by
  rw [List.drop_eq_getElem_cons h, List.getD_eq_getElem?_getD, List.getElem?_eq_getElem h]; rfl
theorem putG_len (e : Et) : ∀ (L : List Et) (d : Bool), (putG e d L).length ≤ L.length + 1
  | [], d => by unfold putG; split <;> simp
  | x :: r, d => by
    unfold putG
    have h1 := putG_len e r (d || !sLt x.1 e.1)
    have h2 : d = true → (putG e true r).length ≤ r.length := fun _ => by
      have : ∀ r : List Et, (putG e true r).length ≤ r.length := fun r => by
        induction r with
        | nil => simp [putG]
        | cons y r ih => simp only [putG, Bool.true_or, List.length_append, List.length_cons, Bool.true_eq_false, false_and, if_false, List.length_nil, Nat.zero_add]; split <;> simp <;> omega
      exact this r
    rw [List.length_append, List.length_append, List.length_cons]
    have h3 : (if x.1 = e.1 then ([] : List Et) else [x]).length ≤ 1 := by split <;> simp
    by_cases hc : d = false ∧ sLt x.1 e.1 = false
    · rw [if_pos hc, hc.1, hc.2]
      have h4 : (putG e true r).length ≤ r.length := by
        have : ∀ r : List Et, (putG e true r).length ≤ r.length := fun r => by
          induction r with
          | nil => simp [putG]
          | cons y r ih => simp only [putG, Bool.true_or, List.length_append, List.length_cons, Bool.true_eq_false, false_and, if_false, List.length_nil, Nat.zero_add]; split <;> simp <;> omega
        exact this r
      simp only [Bool.not_false, Bool.or_true, List.length_singleton] at *
      omega
    · rw [if_neg hc]
      simp only [List.length_nil]
      omega
theorem putT_len (L : List Et) (e : Et) : (putT L e).length ≤ L.length + 1 := putG_len e L false
theorem sdT_no (L : List Et) (s : ByteArray) (h : (stT s).2.2.2 = false ∨ ¬ nmOk (stT s).1 ∨ (¬ bt s 0 = 43 ∧ ¬ hasT L (stT s).1)) : sdT L s = none := by
  unfold sdT
  rw [if_neg]
  rintro ⟨h1, h2, h3⟩
  rcases h with h | h | h
  · rw [h1] at h; exact Bool.noConfusion h
  · exact h h2
  · exact h3.elim h.1 h.2
theorem sdT_43 (L : List Et) (s : ByteArray) (h : (stT s).2.2.2 = true) (hn : nmOk (stT s).1) (hc : bt s 0 = 43) : sdT L s = some (putT L ((stT s).1, (stT s).2.2.1)) := by
  unfold sdT
  rw [if_pos ⟨h, hn, .inl hc⟩, if_pos hc]
theorem sdT_45 (L : List Et) (s : ByteArray) (h : (stT s).2.2.2 = true) (hn : nmOk (stT s).1) (hc : bt s 0 = 45) (hh : hasT L (stT s).1) : sdT L s = some (dropT L (stT s).1) := by
  unfold sdT
  rw [if_pos ⟨h, hn, .inr hh⟩, if_neg (by omega), if_pos hc]
theorem sdT_62 (L : List Et) (s : ByteArray) (h : (stT s).2.2.2 = true) (hn : nmOk (stT s).1) (hc : bt s 0 = 62) (hh : hasT L (stT s).1) : sdT L s = some (putT (dropT L (stT s).1) ((stT s).2.1, entT L (stT s).1)) := by
  unfold sdT
  rw [if_pos ⟨h, hn, .inr hh⟩, if_neg (by omega), if_neg (by omega), if_pos hc]
theorem stT_ok (s : ByteArray) (h : (stT s).2.2.2 = true) : 2 ≤ s.size ∧ (bt s 0 = 43 ∨ bt s 0 = 45 ∨ bt s 0 = 62) := by
  by_cases hn : stNo s
  · rw [stT_A s hn] at h; exact Bool.noConfusion h
  · unfold stNo at hn; omega
theorem stT_le (s : ByteArray) : (stT s).1.size ≤ s.size ∧ (stT s).2.1.size ≤ s.size := by
  have h0 : (⟨#[]⟩ : ByteArray).size = 0 := rfl
  have he := ex_le s
  unfold stT
  split
  · exact ⟨Nat.zero_le _, Nat.zero_le _⟩
  · split
    · exact ⟨he _ _, Nat.zero_le _⟩
    · split
      · exact ⟨Nat.zero_le _, Nat.zero_le _⟩
      · split
        · exact ⟨he _ _, he _ _⟩
        · exact ⟨he _ _, Nat.zero_le _⟩
theorem dropT_len (L : List Et) (n : ByteArray) : (dropT L n).length ≤ L.length := List.length_filter_le _ _
theorem putG_mem (e : Et) : ∀ (L : List Et) (d : Bool) (x : Et), x ∈ putG e d L → x = e ∨ x ∈ L
  | [], d, x, h => by
    unfold putG at h
    split at h
    · simp at h
    · exact .inl (List.mem_singleton.1 h)
  | y :: r, d, x, h => by
    unfold putG at h
    rcases List.mem_append.1 h with h | h
    · rcases List.mem_append.1 h with h | h
      · split at h
        · exact .inl (List.mem_singleton.1 h)
        · simp at h
      · split at h
        · simp at h
        · rw [List.mem_singleton] at h; subst h; exact .inr List.mem_cons_self
    · rcases putG_mem e r _ x h with h | h
      · exact .inl h
      · exact .inr (List.mem_cons_of_mem _ h)
/-- What one step makes of entries of short names: entries of short names, at most one more. -/
theorem sdT_le (L : List Et) (s : ByteArray) (M : List Et) (n : Nat) (h : sdT L s = some M) (hL : ∀ e ∈ L, e.1.size ≤ n) (hs : s.size ≤ n) : M.length ≤ L.length + 1 ∧ ∀ e ∈ M, e.1.size ≤ n := by
  obtain ⟨h1, h2⟩ := stT_le s
  unfold sdT at h
  split at h
  · have h := Option.some.inj h
    subst h
    split
    · exact ⟨putT_len _ _, fun e he => (putG_mem _ _ _ _ he).elim (fun h => by rw [h]; simp only; omega) (hL e)⟩
    · split
      · exact ⟨Nat.le_trans (dropT_len _ _) (Nat.le_succ _), fun e he => hL e (List.mem_filter.1 he).1⟩
      · refine ⟨Nat.le_trans (putT_len _ _) (Nat.succ_le_succ (dropT_len _ _)), fun e he => ?_⟩
        rcases putG_mem _ _ _ _ he with h | h
        · rw [h]; simp only; omega
        · exact hL e (List.mem_filter.1 h).1
  · cases h
theorem sgT_le (n : Nat) : ∀ (S : List ByteArray) (L : List Et), (∀ e ∈ L, e.1.size ≤ n) → (∀ s ∈ S, s.size ≤ n) → (sgT L S).1.length ≤ L.length + S.length ∧ ∀ e ∈ (sgT L S).1, e.1.size ≤ n
  | [], L, h1, _ => ⟨Nat.le_refl _, h1⟩
  | s :: S, L, h1, h2 => by
    unfold sgT
    cases h : sdT L s with
    | none => exact ⟨Nat.zero_le _, fun e he => by simp at he⟩
    | some M =>
      obtain ⟨q1, q2⟩ := sdT_le L s M n h h1 (h2 s List.mem_cons_self)
      obtain ⟨q3, q4⟩ := sgT_le n S M q2 (fun x hx => h2 x (List.mem_cons_of_mem _ hx))
      simp only
      refine ⟨?_, q4⟩
      rw [List.length_cons]
      omega

/-! ### bounds of disks -/
structure DkB (a b : Nat) (d : Dk) : Prop where
  ns : d.1.length ≤ a
  es : d.2.1.length ≤ a
  os : d.2.2.1.length ≤ a
  ss : d.2.2.2.1.length ≤ a
  nt : ∀ n ∈ d.1, n.2.1.size ≤ b
  et : ∀ e ∈ d.2.1, e.1.size ≤ b
  ot : ∀ e ∈ d.2.2.1, e.1.size ≤ b
  st : ∀ s ∈ d.2.2.2.1, s.size ≤ b
theorem DkB.ok {a b : Nat} {d : Dk} (h : DkB a b d) (ha : a ≤ 1048576) (hb : b ≤ 1048576) : DkOk d :=
  ⟨Nat.le_trans h.ns ha, Nat.le_trans h.es ha, Nat.le_trans h.os ha, Nat.le_trans h.ss ha, fun x hx => Nat.le_trans (h.nt x hx) hb, fun x hx => Nat.le_trans (h.et x hx) hb, fun x hx => Nat.le_trans (h.ot x hx) hb, fun x hx => Nat.le_trans (h.st x hx) hb⟩
theorem DkB.mono {a b a' b' : Nat} {d : Dk} (h : DkB a b d) (ha : a ≤ a') (hb : b ≤ b') : DkB a' b' d :=
  ⟨Nat.le_trans h.ns ha, Nat.le_trans h.es ha, Nat.le_trans h.os ha, Nat.le_trans h.ss ha, fun x hx => Nat.le_trans (h.nt x hx) hb, fun x hx => Nat.le_trans (h.et x hx) hb, fun x hx => Nat.le_trans (h.ot x hx) hb, fun x hx => Nat.le_trans (h.st x hx) hb⟩
theorem newT_B (r : Int) (a b : Nat) : DkB a b (newT r) :=
  ⟨Nat.zero_le _, Nat.zero_le _, Nat.zero_le _, Nat.zero_le _, fun x h => absurd h (by simp [newT]), fun x h => absurd h (by simp [newT]), fun x h => absurd h (by simp [newT]), fun x h => absurd h (by simp [newT])⟩
theorem cleanT_B {a b : Nat} {d : Dk} (h : DkB a b d) : DkB a b (cleanT d) :=
  ⟨Nat.le_trans (List.length_filter_le _ _) h.ns, h.es, h.os, h.ss, fun x hx => h.nt x (List.mem_filter.1 hx).1, h.et, h.ot, h.st⟩
theorem decT_le (n : Int) : (decT n).size ≤ 20 := by
  unfold decT
  split
  · decide
  · rw [strOf_size]
    exact decL_len 20 n
theorem mem_snoc {α : Type} {P : α → Prop} {l : List α} {y : α} (h : ∀ x ∈ l, P x) (hy : P y) : ∀ x ∈ l ++ [y], P x := fun x hx => by
  rcases List.mem_append.1 hx with hx | hx
  · exact h x hx
  · rw [List.mem_singleton] at hx; subst hx; exact hy
theorem putT_mem {L : List Et} {e : Et} {b : Nat} (h : ∀ x ∈ L, x.1.size ≤ b) (he : e.1.size ≤ b) : ∀ x ∈ putT L e, x.1.size ≤ b := fun x hx => by
  rcases putG_mem _ _ _ _ hx with rfl | hx
  · exact he
  · exact h x hx
theorem dropT_mem {L : List Et} {n : ByteArray} {b : Nat} (h : ∀ x ∈ L, x.1.size ≤ b) : ∀ x ∈ dropT L n, x.1.size ≤ b := fun x hx => h x (List.mem_filter.1 hx).1
theorem createT_B {a b : Nat} {d : Dk} (h : DkB a b d) (n : ByteArray) (hn : n.size + 24 ≤ b) : DkB (a + 1) b (createT d n).1 := by
  have hm := h.mono (Nat.le_succ a) (Nat.le_refl b)
  unfold createT
  split
  · exact hm
  · split
    · exact hm
    · split
      · exact hm
      · split
        · exact hm
        · refine cleanT_B ⟨?_, Nat.le_trans (putT_len _ _) (Nat.succ_le_succ h.es), hm.os, ?_, mem_snoc h.nt (Nat.zero_le _), putT_mem h.et (by simp only; omega), h.ot, mem_snoc h.st ?_⟩
          · rw [List.length_append, List.length_singleton]; exact Nat.succ_le_succ h.ns
          · rw [List.length_append, List.length_singleton]; exact Nat.succ_le_succ h.ss
          · have := decT_le d.2.2.2.2.2
            simp only [ByteArray.size_append, strOf_size, List.length_singleton]
            omega
theorem setNd_B {a b : Nat} {d : Dk} (h : DkB a b d) (k : Nat) (x : Nd) (hx : x.2.1.size ≤ b) : DkB a b (setNd d k x) :=
  ⟨by show (d.1.set k x).length ≤ a; rw [List.length_set]; exact h.ns, h.es, h.os, h.ss, fun y hy => (List.mem_or_eq_of_mem_set hy).elim (h.nt y) fun e => e ▸ hx, h.et, h.ot, h.st⟩
theorem nd_le {a b : Nat} {d : Dk} (h : DkB a b d) (k : Nat) : (d.1.getD k default).2.1.size ≤ b := by
  by_cases hk : k < d.1.length
  · rw [List.getD_eq_getElem?_getD, List.getElem?_eq_getElem hk]; exact h.nt _ (List.getElem_mem _)
  · rw [List.getD_eq_getElem?_getD, List.getElem?_eq_none (by omega)]; exact Nat.zero_le _
theorem appendT_B {a b : Nat} {d : Dk} (h : DkB a b d) (n t : ByteArray) : DkB a (b + t.size) (appendT d n t).1 := by
  have hm := h.mono (Nat.le_refl a) (Nat.le_add_right b t.size)
  have hz := nd_le h (nodeI d.1 (entT d.2.1 n)).toNat
  unfold appendT
  split
  · exact hm
  · split
    · refine setNd_B hm _ _ ?_
      have := ex_le t 0 (d.2.2.2.2.1 - usedT d).toNat
      simp only [ByteArray.size_append]
      omega
    · refine setNd_B hm _ _ ?_
      simp only [ByteArray.size_append]
      omega
theorem syncT_B {a b : Nat} {d : Dk} (h : DkB a b d) (n : ByteArray) : DkB a b (syncT d n).1 := by
  unfold syncT
  split
  · exact h
  · exact setNd_B h _ _ (nd_le h _)
theorem renameT_B {a b : Nat} {d : Dk} (h : DkB a b d) (x y : ByteArray) (hn : x.size + y.size + 2 ≤ b) : DkB (a + 1) b (renameT d x y).1 := by
  have hm := h.mono (Nat.le_succ a) (Nat.le_refl b)
  unfold renameT
  split
  · exact hm
  · split
    · exact hm
    · refine cleanT_B ⟨hm.ns, Nat.le_trans (putT_len _ _) (Nat.succ_le_succ (Nat.le_trans (dropT_len _ _) h.es)), hm.os, ?_, h.nt, putT_mem (dropT_mem h.et) (by simp only; omega), h.ot, mem_snoc h.st ?_⟩
      · rw [List.length_append, List.length_singleton]; exact Nat.succ_le_succ h.ss
      · simp only [ByteArray.size_append, strOf_size, List.length_singleton]
        omega
theorem removeT_B {a b : Nat} {d : Dk} (h : DkB a b d) (n : ByteArray) (hn : n.size + 1 ≤ b) : DkB (a + 1) b (removeT d n).1 := by
  have hm := h.mono (Nat.le_succ a) (Nat.le_refl b)
  unfold removeT
  split
  · exact hm
  · refine cleanT_B ⟨hm.ns, Nat.le_trans (dropT_len _ _) hm.es, hm.os, ?_, h.nt, dropT_mem h.et, h.ot, mem_snoc h.st ?_⟩
    · rw [List.length_append, List.length_singleton]; exact Nat.succ_le_succ h.ss
    · simp only [ByteArray.size_append, strOf_size, List.length_singleton]
      omega
theorem syncNamesT_B {a b : Nat} {d : Dk} (h : DkB a b d) : DkB a b (syncNamesT d) := by
  unfold syncNamesT
  split
  · exact h
  · exact cleanT_B ⟨h.ns, h.es, h.es, Nat.zero_le _, h.nt, h.et, h.et, fun x hx => absurd hx (by simp)⟩
theorem flt_snoc {α : Type} [Inhabited α] (p : α → Bool) (L : List α) (i : Nat) (h : i < L.length) : (L.take (i + 1)).filter p = (L.take i).filter p ++ if p (L.getD i default) = true then [L.getD i default] else [] := by
  rw [take_snoc default L i h, List.filter_append]
  congr 1
  show List.filter p [rdOf default L i] = _
  have : rdOf default L (i : Int) = L.getD i default := rfl
  rw [this]
  cases hp : p (L.getD i default)
  · rw [List.filter_cons_of_neg (by rw [hp]; decide)]; rfl
  · rw [List.filter_cons_of_pos hp]; rfl
theorem eq_stp {α : Type} [Inhabited α] (xs ys : List α) (i : Nat) (hl : xs.length = ys.length) (hi : i < xs.length) (h : xs.take i = ys.take i) (he : xs.getD i default = ys.getD i default) : xs.take (i + 1) = ys.take (i + 1) := by
  rw [List.take_succ_eq_append_getElem hi, List.take_succ_eq_append_getElem (by omega), h]
  rw [List.getD_eq_getElem?_getD, List.getD_eq_getElem?_getD, List.getElem?_eq_getElem hi, List.getElem?_eq_getElem (by omega : i < ys.length)] at he
  exact congrArg (fun x => ys.take i ++ [x]) he
end Go.Mth

/- A row that is only read from then on; loops whose head is reached so. -/
namespace Go.Pv
open Go.RowKit
variable {P : Program} {T : Tab} {s : St}

/-- What stands in one state stands in another, too. -/
def Im (s' s : St) : Prop := ∀ (w0 : World) (V M : Bl) (Γ0 : Nat → Value) (h0 : Hp) (a : Act) (w : World), Rel w0 V M Γ0 h0 s a w → Rel w0 V M Γ0 h0 s' a w
theorem Im.sub {s' s : St} (h : Sub s' s) : Im s' s := fun _ _ _ _ _ _ _ R => h.rel R
theorem Im.trans {s3 s2 s1 : St} (h : Im s3 s2) (k : Im s2 s1) : Im s3 s1 := fun _ _ _ _ _ _ _ R => h _ _ _ _ _ _ _ (k _ _ _ _ _ _ _ R)
/-- A row is given up; what named it is a slice that is only read. -/
theorem Im.frz {s : St} (t : Tmp) (k : Nat) {n : Nat} {sz : Sz} {xs : List PV} (h1 : tget s.tm t = .row k n) (h2 : hget s.hp k = some (.row sz xs)) (h3 : n = xs.length) : Im ⟨s.n, (t, .far xs) :: s.tm, (k, .dead) :: s.hp⟩ s := fun w0 V M Γ0 h0 a w ⟨Γ, R⟩ => by
  have C := Chg.kill R (b := k) (by rw [h2]; simp)
  have R2 := C.rel R
  refine ⟨Γ, ⟨R2.kp, R2.defers, R2.size, R2.vlt, fun t' => ?_, R2.hp, R2.dis, R2.own, R2.gr, R2.low⟩⟩
  show VR w (Av V Γ ([(k, .dead)] ++ s.hp)) Γ ([(k, .dead)] ++ s.hp) (tget ((t, .far xs) :: s.tm) t') _
  by_cases e : t' = t
  · subst e
    have e2 : tget ((t', PV.far xs) :: s.tm) t' = .far xs := by simp [tget]
    rw [e2]
    have hx := R.tm t'
    rw [h1] at hx
    obtain ⟨ad, cap, hv, hc, hh⟩ := elems_vr (xs := xs) hx R.hp (by simp only [elems, h2]; rw [if_pos h3])
    rw [hv]
    refine .data ?_
    rcases hh with rfl | ⟨β, o, c, e, fr, z, rfl, hw, hz, hm, hav⟩
    · exact .far0 _ _
    · refine .far xs β o cap z c e fr ?_ hw hc hz (fun i x j y hx hy => (hm i x j y hx hy).1) fun i x j y hx hy => C.dr (hm i x j y hx hy).2
      rcases hav with hav | ⟨g', n', h3, hl, ho⟩
      · intro hb
        refine hav (hb.elim .inl fun ⟨k', l', o'⟩ => .inr ⟨k', (liveK l').2, o'⟩)
      · obtain rfl : g' = k := by
          rcases h3 with h3 | ⟨lo, hi, h3⟩
          · cases h3; rfl
          · cases h3
        intro hb
        rcases hb with hb | ⟨k', l', o'⟩
        · obtain ⟨p1, p2⟩ := R.vlt.1 β hb
          rcases R.own β ⟨g', hl, ho⟩ with p3 | p3
          · omega
          · exact p2 p3
        · exact (liveK l').1 (R.dis k' g' β (liveK l').2 hl o' ho)
  · have e2 : tget ((t, PV.far xs) :: s.tm) t' = tget s.tm t' := by simp [tget, e]
    rw [e2]
    exact R2.tm t'
theorem Im.go {s' s : St} (t : Tmp) (k : Nat) {n : Nat} {sz : Sz} {xs : List PV} (h1 : tget s.tm t = .row k n) (h2 : hget s.hp k = some (.row sz xs)) (h3 : n = xs.length) (h : Sub s' ⟨s.n, (t, .far xs) :: s.tm, (k, .dead) :: s.hp⟩) : Im s' s :=
  (Im.sub h).trans (Im.frz t k h1 h2 h3)

inductive RoundsI (P : Program) (c : Code) (e : PE) (s' : St) : Nat → St → Prop
  | last (n : Nat) (s : St) (h : Sem P c s fun e2 s2 => e2 = e ∧ s2 = s') (he : e ≠ .normal) : RoundsI P c e s' n s
  | more (n : Nat) (s s1 s2 : St) (h : Sem P c s fun e2 s3 => e2 = .normal ∧ s3 = s1) (hs : Im s2 s1) (h2 : RoundsI P c e s' n s2) : RoundsI P c e s' (n + 1) s

theorem RoundsI.sem {c : Code} {e : PE} {s' : St} {n : Nat} (h : RoundsI P c e s' n s) : Sem P (.loop c) s fun e2 s2 => e2 = e ∧ s2 = s' := fun w0 V M Γ0 h0 a w R => by
  refine wp_loop_nat (fun n a w => ∃ s, RoundsI P c e s' n s ∧ Rel w0 V M Γ0 h0 s a w) (n := n) ⟨s, h, R⟩ fun n a w ⟨s, hI, R⟩ => ?_
  cases hI with
  | last _ _ h he =>
    refine wp_mono (h w0 V M Γ0 h0 a w R) fun e' a' w' ⟨s1, R1, q⟩ => ?_
    cases e' <;> first
      | exact q.elim
      | exact absurd q.1.symm he
      | exact ⟨s1, R1, q⟩
  | more n _ s1 s2 h hs h2 =>
    refine wp_mono (h w0 V M Γ0 h0 a w R) fun e' a' w' ⟨s3, R1, q⟩ => ?_
    cases e' <;> first
      | exact q.elim
      | exact PE.noConfusion q.1
      | (obtain ⟨_, rfl⟩ := q; exact ⟨n, Nat.lt_succ_self n, s2, h2, hs _ _ _ _ _ _ _ R1⟩)

/-- A loop whose head is reached by what a state implies. -/
theorem lp_im {α : Type} (inv : α → St) (p : α → Prop) (μ : α → Nat) (x0 : α) {c : Code} {N : St → Prop} {X : Nat → St → Prop} {R : St → Prop} (h1 : Im (inv x0) s) (h2 : p x0)
    (round : ∀ x, p x → ∀ N : St → Prop, (∀ y s1, p y → μ y < μ x → Im (inv y) s1 → N s1) → vc P T c N X R (inv x)) : Lp P T c N X R s := fun hT => by
  have key : ∀ n x, μ x = n → p x → ∃ e s', toQ (fun _ => False) X R e s' ∧ ∃ n, RoundsI P c e s' n (inv x) := fun n => by
    induction n using Nat.strongRecOn with
    | _ n ih =>
      intro x hn hp
      obtain ⟨e, s1, q1, q2⟩ := vc_sound hT c (fun s1 => ∃ y, p y ∧ μ y < μ x ∧ Im (inv y) s1) X R _ (round x hp _ fun y s1 h1 h2 h3 => ⟨y, h1, h2, h3⟩)
      cases e
      case normal =>
        obtain ⟨y, py, hy, hs⟩ := q1
        obtain ⟨e, s', r1, k, r2⟩ := ih (μ y) (by omega) y rfl py
        exact ⟨e, s', r1, k + 1, .more k _ s1 _ q2 hs r2⟩
      · exact ⟨.exit _, s1, q1, 0, .last 0 _ q2 (fun e => PE.noConfusion e)⟩
      · exact ⟨.ret, s1, q1, 0, .last 0 _ q2 (fun e => PE.noConfusion e)⟩
  obtain ⟨e, s', r1, k, r2⟩ := key _ x0 rfl h2
  exact ⟨e, s', r1, fun w0 V M Γ0 h0 a w R => r2.sem w0 V M Γ0 h0 a w (h1 _ _ _ _ _ _ _ R)⟩
end Go.Pv

/- A row gets another key. -/
namespace Go.Pv
open Go.RowKit

def rn1 (k k' : Nat) : PV → PV
  | .row g n => if g = k then .row k' n else .row g n
  | x => x
def rn2 (k k' : Nat) : PV → PV
  | .agg xs => .agg (xs.map (rn1 k k'))
  | x => rn1 k k' x
section
variable {w : World} {V : Bl} {Γ : Nat → Value} {hp : Hp} {k k' : Nat} {sz : Sz} {xs : List PV}
def mvΓ (Γ : Nat → Value) (k k' : Nat) : Nat → Value := fun j => if j = k' then Γ k else Γ j
def mvH (hp : Hp) (k k' : Nat) (c : HC) : Hp := (k', c) :: (k, .dead) :: hp
theorem mv_k' (c : HC) : hget (mvH hp k k' c) k' = some c := by simp [mvH, hget]
theorem mv_k (c : HC) (h : k ≠ k') : hget (mvH hp k k' c) k = some .dead := by simp [mvH, hget, h]
theorem mv_o (c : HC) {j : Nat} (h1 : j ≠ k') (h2 : j ≠ k) : hget (mvH hp k k' c) j = hget hp j := by simp [mvH, hget, h1, h2]
theorem mv_ow (hk : hget hp k = some (.row sz xs)) (hk' : hget hp k' = none) (b : Nat) : Ow (mvΓ Γ k k') (mvH hp k k' (.row sz xs)) b ↔ Ow Γ hp b := by
  have hne : k ≠ k' := fun e => by rw [e, hk'] at hk; cases hk
  constructor
  · rintro ⟨j, l, o⟩
    by_cases e : j = k'
    · subst e
      refine ⟨k, by unfold live; rw [hk]; trivial, ?_⟩
      simpa [mvΓ] using o
    · by_cases e2 : j = k
      · subst e2
        unfold live at l
        rw [mv_k _ hne] at l
        exact l.elim
      · refine ⟨j, by unfold live at l ⊢; rwa [mv_o _ e e2] at l, ?_⟩
        simpa [mvΓ, e] using o
  · rintro ⟨j, l, o⟩
    by_cases e2 : j = k
    · subst e2
      exact ⟨k', by unfold live; rw [mv_k']; trivial, by simpa [mvΓ] using o⟩
    · have e : j ≠ k' := fun e => by subst e; unfold live at l; rw [hk'] at l; exact l
      exact ⟨j, by unfold live at l ⊢; rwa [mv_o _ e e2], by simpa [mvΓ, e] using o⟩
theorem mv_av (hk : hget hp k = some (.row sz xs)) (hk' : hget hp k' = none) (b : Nat) : Av V (mvΓ Γ k k') (mvH hp k k' (.row sz xs)) b ↔ Av V Γ hp b := or_congr Iff.rfl (mv_ow hk hk' b)
theorem mv_dr (hk : hget hp k = some (.row sz xs)) (hk' : hget hp k' = none) {x : PV} {v : Value} (h : DR w (Av V Γ hp) x v) : DR w (Av V (mvΓ Γ k k') (mvH hp k k' (.row sz xs))) x v :=
  h.step (fun _ _ _ => rfl) fun b _ hb => (mv_av hk hk' b).1 hb
/-- What named other keys goes on; what named the old one is not told of any more. -/
theorem mv_vr (hk : hget hp k = some (.row sz xs)) (hk' : hget hp k' = none) {x : PV} {v : Value} (h : VR w (Av V Γ hp) Γ hp x v) : VR w (Av V (mvΓ Γ k k') (mvH hp k k' (.row sz xs))) (mvΓ Γ k k') (mvH hp k k' (.row sz xs)) x v := by
  have hne : k ≠ k' := fun e => by rw [e, hk'] at hk; cases hk
  have nk : ∀ g, hget hp g ≠ none → g ≠ k' := fun g h e => h (e ▸ hk')
  have hg : ∀ g, hget hp g ≠ none → hget (mvH hp k k' (.row sz xs)) g ≠ none := fun g h => by
    by_cases e : g = k
    · subst e; rw [mv_k _ hne]; simp
    · rw [mv_o _ (nk g h) e]; exact h
  have hr : ∀ g c, hget hp g ≠ none → hget (mvH hp k k' (.row sz xs)) g = some c → c ≠ .dead → hget hp g = some c ∧ mvΓ Γ k k' g = Γ g := fun g c h h2 hd => by
    by_cases e : g = k
    · subst e; rw [mv_k _ hne] at h2; cases h2; exact absurd rfl hd
    · rw [mv_o _ (nk g h) e] at h2
      exact ⟨h2, if_neg (nk g h)⟩
  induction h with
  | data h => exact .data (mv_dr hk hk' h)
  | agg ys cs hl _ ih => exact .agg ys cs hl ih
  | tup ys cs hl _ ih => exact .tup ys cs hl ih
  | fn f ys cs hl _ ih => exact .fn f ys cs hl ih
  | row g n v ho h1 h2 => exact .row g n v ho (hg g h1) (fun sz' xs' e => (by obtain ⟨e1, e2⟩ := hr g _ h1 e (by simp); rw [e2]; exact h2 sz' xs' e1))
  | view g n lo hi v ho h1 h2 => exact .view g n lo hi v ho (hg g h1) (fun sz' xs' e => (by obtain ⟨e1, e2⟩ := hr g _ h1 e (by simp); rw [e2]; exact h2 sz' xs' e1))
  | elt g n i off v ho h1 h2 => exact .elt g n i off v ho (hg g h1) (fun sz' xs' e => (by obtain ⟨e1, e2⟩ := hr g _ h1 e (by simp); rw [e2]; exact h2 sz' xs' e1))
  | ref b off v ho h1 h2 => exact .ref b off v ho (hg b h1) (fun q cs e => (by obtain ⟨e1, e2⟩ := hr b _ h1 e (by simp); rw [e2]; exact h2 q cs e1))
theorem mv_rn1 (hk : hget hp k = some (.row sz xs)) (hk' : hget hp k' = none) {x : PV} {v : Value} (h : VR w (Av V Γ hp) Γ hp x v) : VR w (Av V (mvΓ Γ k k') (mvH hp k k' (.row sz xs))) (mvΓ Γ k k') (mvH hp k k' (.row sz xs)) (rn1 k k' x) v := by
  cases x <;> try exact mv_vr hk hk' h
  rename_i g n
  by_cases e : g = k
  · rw [show rn1 k k' (.row g n) = .row k' n from if_pos e]
    subst e
    cases h with
    | data h => cases h
    | row _ _ _ ho h1 h2 =>
      refine .row k' n v ho (by rw [mv_k']; simp) fun sz' xs' e => ?_
      rw [mv_k'] at e
      cases e
      obtain ⟨p1, p2⟩ := h2 sz xs hk
      exact ⟨p1, fun q => by rw [p2 q]; exact (if_pos rfl).symm⟩
  · rw [show rn1 k k' (.row g n) = .row g n from if_neg e]
    exact mv_vr hk hk' h
theorem mv_rn2 (hk : hget hp k = some (.row sz xs)) (hk' : hget hp k' = none) {x : PV} {v : Value} (h : VR w (Av V Γ hp) Γ hp x v) : VR w (Av V (mvΓ Γ k k') (mvH hp k k' (.row sz xs))) (mvΓ Γ k k') (mvH hp k k' (.row sz xs)) (rn2 k k' x) v := by
  cases x <;> try exact mv_rn1 hk hk' h
  rename_i ys
  obtain ⟨cs, rfl, h1, h2⟩ := vr_agg h
  refine .agg _ cs (by rw [List.length_map]; exact h1) fun i y hy => ?_
  rw [List.getElem?_map] at hy
  obtain ⟨z, hz, rfl⟩ := Option.map_eq_some_iff.1 hy
  exact mv_rn1 hk hk' (h2 i z hz)
end
/-- The row of key k, which temporary t names, gets the key k'. -/
theorem Im.ren {s : St} (t : Tmp) (k k' : Nat) {sz : Sz} {xs : List PV} (h1 : hget s.hp k = some (.row sz xs)) (h2 : hget s.hp k' = none) (h3 : 64 ≤ k') : Im ⟨s.n, (t, rn2 k k' (tget s.tm t)) :: s.tm, mvH s.hp k k' (.row sz xs)⟩ s := fun w0 V M Γ0 h0 a w ⟨Γ, R⟩ => by
  have hne : k ≠ k' := fun e => by rw [e, h2] at h1; cases h1
  refine ⟨mvΓ Γ k k', ⟨R.kp, R.defers, R.size, R.vlt, fun t' => ?_, fun j => ?_, fun j j' b l l' o o' => ?_, fun b hb => R.own b ((mv_ow h1 h2 b).1 hb), fun g hg => ?_, R.low⟩⟩
  · show VR w (Av V (mvΓ Γ k k') (mvH s.hp k k' (.row sz xs))) (mvΓ Γ k k') (mvH s.hp k k' (.row sz xs)) (tget ((t, rn2 k k' (tget s.tm t)) :: s.tm) t') _
    by_cases e : t' = t
    · subst e
      have e2 : tget ((t', rn2 k k' (tget s.tm t')) :: s.tm) t' = rn2 k k' (tget s.tm t') := by simp [tget]
      rw [e2]
      exact mv_rn2 h1 h2 (R.tm t')
    · have e2 : tget ((t, rn2 k k' (tget s.tm t)) :: s.tm) t' = tget s.tm t' := by simp [tget, e]
      rw [e2]
      exact mv_vr h1 h2 (R.tm t')
  · show HR w (Av V (mvΓ Γ k k') (mvH s.hp k k' (.row sz xs))) (mvΓ Γ k k') (mvH s.hp k k' (.row sz xs)) j
    by_cases e : j = k'
    · subst e
      have hr := R.hp k
      unfold HR at hr ⊢
      rw [h1] at hr
      rw [mv_k']
      simp only at hr ⊢
      obtain ⟨p0, hr⟩ := hr
      have eΓ : mvΓ Γ k j j = Γ k := if_pos rfl
      rw [eΓ]
      refine ⟨p0, hr.imp id ?_⟩
      rintro ⟨β, o, cap, c, e, fr, q1, q2, q3, q4, q5, q6, q7, q8⟩
      exact ⟨β, o, cap, c, e, fr, q1, q2, q3, q4, q5, q6, q7, fun i x j y hx hy => mv_dr h1 h2 (q8 i x j y hx hy)⟩
    · by_cases e2 : j = k
      · subst e2
        unfold HR
        rw [mv_k _ hne]
        trivial
      · have hr := R.hp j
        unfold HR at hr ⊢
        rw [mv_o _ e e2]
        have eΓ : mvΓ Γ k k' j = Γ j := if_neg e
        rw [eΓ]
        cases hh : hget s.hp j with
        | none => trivial
        | some c =>
          rw [hh] at hr
          cases c with
          | dead => trivial
          | box q cs =>
            obtain ⟨β, c, fr, q1, q2, q3, q4, q5⟩ := hr
            exact ⟨β, c, fr, q1, q2, q3, q4, fun i y hy => mv_vr h1 h2 (q5 i y hy)⟩
          | row sz' xs' =>
            obtain ⟨p0, hr⟩ := hr
            refine ⟨p0, hr.imp id ?_⟩
            rintro ⟨β, o, cap, c, e, fr, q1, q2, q3, q4, q5, q6, q7, q8⟩
            exact ⟨β, o, cap, c, e, fr, q1, q2, q3, q4, q5, q6, q7, fun i x j y hx hy => mv_dr h1 h2 (q8 i x j y hx hy)⟩
  · -- no two keys in one block
    have back : ∀ j, live (mvH s.hp k k' (.row sz xs)) j → ob (mvΓ Γ k k' j) = some b → ∃ i, live s.hp i ∧ ob (Γ i) = some b ∧ (j = k' ∧ i = k ∨ j ≠ k' ∧ i = j ∧ j ≠ k) := fun j l o => by
      by_cases e : j = k'
      · subst e
        exact ⟨k, by unfold live; rw [h1]; trivial, by simpa [mvΓ] using o, .inl ⟨rfl, rfl⟩⟩
      · by_cases e2 : j = k
        · subst e2
          unfold live at l
          rw [mv_k _ hne] at l
          exact l.elim
        · exact ⟨j, by unfold live at l ⊢; rwa [mv_o _ e e2] at l, by simpa [mvΓ, e] using o, .inr ⟨e, rfl, e2⟩⟩
    obtain ⟨i, l1, o1, q1⟩ := back j l o
    obtain ⟨i', l2, o2, q2⟩ := back j' l' o'
    have := R.dis i i' b l1 l2 o1 o2
    subst this
    rcases q1 with ⟨rfl, rfl⟩ | ⟨n1, rfl, n2⟩ <;> rcases q2 with ⟨rfl, e⟩ | ⟨n3, e, n4⟩
    · rfl
    · exact absurd e.symm n4
    · exact absurd e n2
    · exact e
  · obtain ⟨g1, g2, g3⟩ := R.gr g hg
    have hlow := R.low g hg
    have e : g ≠ k' := by omega
    have eΓ : mvΓ Γ k k' g = Γ g := if_neg e
    show hget (mvH s.hp k k' (.row sz xs)) g ≠ none ∧ (∀ sz' xs', hget (mvH s.hp k k' (.row sz xs)) g = some (.row sz' xs') → _) ∧ (∀ q cs, hget (mvH s.hp k k' (.row sz xs)) g = some (.box q cs) → _)
    by_cases e2 : g = k
    · subst e2
      rw [mv_k _ hne]
      exact ⟨by simp, fun _ _ h => (by cases h), fun _ _ h => (by cases h)⟩
    · rw [mv_o _ e e2, eΓ]
      exact ⟨g1, g2, g3⟩
/-- A slice that is nil, within what temporary t names, gets a key: an empty row. -/
theorem Im.nil {s : St} (t : Tmp) (k : Nat) (sz : Sz) (xs : List PV) (i : Nat) (h0 : 0 < sz.sz) (h1 : tget s.tm t = .agg xs) (hi : xs[i]? = some .nils) (h2 : hget s.hp k = none) : Im ⟨s.n, (t, .agg (xs.set i (.row k 0))) :: s.tm, (k, .row sz []) :: s.hp⟩ s := fun w0 V M Γ0 h00 a w ⟨Γ, R⟩ => by
  have hne : ∀ g, hget s.hp g ≠ none → g ≠ k := fun g hg e => hg (e ▸ h2)
  obtain ⟨Γ', hΓk, hΓ⟩ : ∃ Γ' : Nat → Value, Γ' k = .slice none 0 0 ∧ ∀ g, g ≠ k → Γ' g = Γ g := ⟨fun j => if j = k then .slice none 0 0 else Γ j, if_pos rfl, fun g hg => if_neg hg⟩
  have hold : ∀ g, g ≠ k → hget ([(k, HC.row sz [])] ++ s.hp) g = hget s.hp g := fun g hg => by simp [hget, hg]
  have hnew : hget ([(k, HC.row sz [])] ++ s.hp) k = some (.row sz []) := by simp [hget]
  have grow : Grow Γ Γ' s.hp ([(k, HC.row sz [])] ++ s.hp) := fun g hg => by
    rw [hold g (hne g hg), hΓ g (hne g hg)]
    exact ⟨hg, fun sz xs h => ⟨xs, h, Nat.le_refl _, fun _ => rfl⟩, fun _ cs' h => ⟨rfl, cs', h⟩⟩
  have lives : ∀ g, g ≠ k → live ([(k, HC.row sz [])] ++ s.hp) g → live s.hp g := fun g hg h => by unfold live at *; rwa [hold g hg] at h
  have nob : ∀ b, ob (Γ' k) ≠ some b := fun b h => by rw [hΓk] at h; cases h
  have own : ∀ b, Ow Γ' ([(k, HC.row sz [])] ++ s.hp) b → w.heap.size ≤ b ∨ Ow Γ s.hp b := fun b ⟨j, l, o⟩ => by
    by_cases e : j = k
    · subst e; exact absurd o (nob b)
    · rw [hΓ j e] at o; exact .inr ⟨j, lives j e l, o⟩
  have C : Chg V Γ Γ' s.hp ([(k, HC.row sz [])] ++ s.hp) w w := by
    refine ⟨Kp.refl _ _, grow, own, fun j => ?_, fun j j' b l l' e e' => ?_⟩
    · by_cases ek : j = k
      · subst ek
        unfold HR
        rw [hnew]
        exact ⟨h0, .inl ⟨rfl, hΓk⟩⟩
      · exact hr_keep (Kp.refl _ _) grow own (hold j ek) (hΓ j ek) (fun b _ _ _ => rfl) (R.hp j)
    · by_cases ek : j = k
      · subst ek; exact absurd e (nob b)
      · by_cases ek' : j' = k
        · subst ek'; exact absurd e' (nob b)
        · rw [hΓ j ek] at e
          rw [hΓ j' ek'] at e'
          exact R.dis j j' b (lives j ek l) (lives j' ek' l') e e'
  have R2 := C.rel R
  refine ⟨Γ', ⟨R2.kp, R2.defers, R2.size, R2.vlt, fun t' => ?_, R2.hp, R2.dis, R2.own, R2.gr, R2.low⟩⟩
  show VR w (Av V Γ' ([(k, HC.row sz [])] ++ s.hp)) Γ' ([(k, HC.row sz [])] ++ s.hp) (tget ((t, .agg (xs.set i (.row k 0))) :: s.tm) t') _
  by_cases e : t' = t
  · subst e
    have e2 : tget ((t', PV.agg (xs.set i (.row k 0))) :: s.tm) t' = .agg (xs.set i (.row k 0)) := by simp [tget]
    rw [e2]
    have hx : VR w (Av V Γ' ([(k, HC.row sz [])] ++ s.hp)) Γ' ([(k, HC.row sz [])] ++ s.hp) (tget s.tm t') (a.tmps.getD t' undef) := R2.tm t'
    rw [h1] at hx
    obtain ⟨cs, hv, hl, hcs⟩ := vr_agg hx
    rw [hv]
    refine .agg _ cs (by rw [List.length_set]; exact hl) fun j y hy => ?_
    rw [List.getElem?_set] at hy
    split at hy
    · rename_i hj
      subst hj
      split at hy
      · cases hy
        have hn := vr_nils (hcs i .nils hi)
        rw [hn]
        exact .row k 0 _ rfl (by rw [hnew]; simp) fun sz' xs' e => ⟨Nat.zero_le _, fun _ => hΓk.symm⟩
      · cases hy
    · exact hcs j y hy
  · have e2 : tget ((t, PV.agg (xs.set i (.row k 0))) :: s.tm) t' = tget s.tm t' := by simp [tget, e]
    rw [e2]
    exact R2.tm t'
/-- The same within a variable: the row of key k, which the variable of key g names, gets the key k'. -/
theorem Im.renB {s : St} (g k k' : Nat) {q : TypeId} {cs : List PV} {sz : Sz} {xs : List PV} (hg : hget s.hp g = some (.box q cs)) (h1 : hget s.hp k = some (.row sz xs)) (h2 : hget s.hp k' = none) (h3 : 64 ≤ k') : Im ⟨s.n, s.tm, (g, .box q (cs.map (rn1 k k'))) :: mvH s.hp k k' (.row sz xs)⟩ s := fun w0 V M Γ0 h0 a w ⟨Γ, R⟩ => by
  have hne : k ≠ k' := fun e => by rw [e, h2] at h1; cases h1
  have ngk : g ≠ k := fun e => by rw [e, h1] at hg; cases hg
  have ngk' : g ≠ k' := fun e => by rw [e, h2] at hg; cases hg
  have hH1 : hget (mvH s.hp k k' (.row sz xs)) g = some (.box q cs) := by rw [mv_o _ ngk' ngk, hg]
  have hHg : hget ((g, HC.box q (cs.map (rn1 k k'))) :: mvH s.hp k k' (.row sz xs)) g = some (.box q (cs.map (rn1 k k'))) := by simp [hget]
  have hHo : ∀ j, j ≠ g → hget ((g, HC.box q (cs.map (rn1 k k'))) :: mvH s.hp k k' (.row sz xs)) j = hget (mvH s.hp k k' (.row sz xs)) j := fun j hj => by simp [hget, hj]
  have lv : ∀ j, live ((g, HC.box q (cs.map (rn1 k k'))) :: mvH s.hp k k' (.row sz xs)) j ↔ live (mvH s.hp k k' (.row sz xs)) j := fun j => by
    by_cases e : j = g
    · subst e; unfold live; rw [hHg, hH1]
    · unfold live; rw [hHo j e]
  have ow : ∀ b, Ow (mvΓ Γ k k') ((g, HC.box q (cs.map (rn1 k k'))) :: mvH s.hp k k' (.row sz xs)) b ↔ Ow (mvΓ Γ k k') (mvH s.hp k k' (.row sz xs)) b := fun b => ⟨fun ⟨j, l, o⟩ => ⟨j, (lv j).1 l, o⟩, fun ⟨j, l, o⟩ => ⟨j, (lv j).2 l, o⟩⟩
  have grow : Grow (mvΓ Γ k k') (mvΓ Γ k k') (mvH s.hp k k' (.row sz xs)) ((g, HC.box q (cs.map (rn1 k k'))) :: mvH s.hp k k' (.row sz xs)) := fun j hj => by
    by_cases e : j = g
    · subst e
      rw [hHg]
      exact ⟨by simp, fun _ _ h => (by cases h), fun _ _ h => (by cases h; exact ⟨rfl, cs, hH1⟩)⟩
    · rw [hHo j e]
      exact ⟨hj, fun _ xs' h => ⟨xs', h, Nat.le_refl _, fun _ => rfl⟩, fun _ cs' h => ⟨rfl, cs', h⟩⟩
  have lift : ∀ {x : PV} {v : Value}, VR w (Av V (mvΓ Γ k k') (mvH s.hp k k' (.row sz xs))) (mvΓ Γ k k') (mvH s.hp k k' (.row sz xs)) x v → VR w (Av V (mvΓ Γ k k') ((g, HC.box q (cs.map (rn1 k k'))) :: mvH s.hp k k' (.row sz xs))) (mvΓ Γ k k') ((g, HC.box q (cs.map (rn1 k k'))) :: mvH s.hp k k' (.row sz xs)) x v := fun h =>
    (h.step (fun _ _ _ => rfl) (fun b _ hb => hb.imp id (ow b).1)).keys grow
  have liftD : ∀ {x : PV} {v : Value}, DR w (Av V Γ s.hp) x v → DR w (Av V (mvΓ Γ k k') ((g, HC.box q (cs.map (rn1 k k'))) :: mvH s.hp k k' (.row sz xs))) x v := fun h =>
    (mv_dr h1 h2 h).step (fun _ _ _ => rfl) (fun b _ hb => hb.imp id (ow b).1)
  refine ⟨mvΓ Γ k k', ⟨R.kp, R.defers, R.size, R.vlt, fun t' => lift (mv_vr h1 h2 (R.tm t')), fun j => ?_, fun j j' b l l' o o' => ?_, fun b hb => R.own b ((mv_ow h1 h2 b).1 ((ow b).1 hb)), fun g' hg' => ?_, R.low⟩⟩
  · show HR w (Av V (mvΓ Γ k k') ((g, HC.box q (cs.map (rn1 k k'))) :: mvH s.hp k k' (.row sz xs))) (mvΓ Γ k k') ((g, HC.box q (cs.map (rn1 k k'))) :: mvH s.hp k k' (.row sz xs)) j
    by_cases eg : j = g
    · subst eg
      have hr := R.hp j
      unfold HR at hr ⊢
      rw [hg] at hr
      rw [hHg]
      obtain ⟨β, c, fr, q1, q2, q3, q4, q5⟩ := hr
      have eΓ : mvΓ Γ k k' j = Γ j := if_neg ngk'
      refine ⟨β, c, fr, by rw [eΓ]; exact q1, q2, by rw [List.length_map]; exact q3, q4, fun i y hy => ?_⟩
      rw [List.getElem?_map] at hy
      obtain ⟨z, hz, rfl⟩ := Option.map_eq_some_iff.1 hy
      exact lift (mv_rn1 h1 h2 (q5 i z hz))
    · by_cases e : j = k'
      · subst e
        have hr := R.hp k
        unfold HR at hr ⊢
        rw [h1] at hr
        rw [hHo _ eg, mv_k']
        simp only at hr ⊢
        obtain ⟨p0, hr⟩ := hr
        have eΓ : mvΓ Γ k j j = Γ k := if_pos rfl
        rw [eΓ]
        refine ⟨p0, hr.imp id ?_⟩
        rintro ⟨β, o, cap, c, e, fr, q1, q2, q3, q4, q5, q6, q7, q8⟩
        exact ⟨β, o, cap, c, e, fr, q1, q2, q3, q4, q5, q6, q7, fun i x j y hx hy => liftD (q8 i x j y hx hy)⟩
      · by_cases e2 : j = k
        · subst e2
          unfold HR
          rw [hHo _ eg, mv_k _ hne]
          trivial
        · have hr := R.hp j
          unfold HR at hr ⊢
          rw [hHo _ eg, mv_o _ e e2]
          have eΓ : mvΓ Γ k k' j = Γ j := if_neg e
          rw [eΓ]
          cases hh : hget s.hp j with
          | none => trivial
          | some c =>
            rw [hh] at hr
            cases c with
            | dead => trivial
            | box q cs =>
              obtain ⟨β, c, fr, q1, q2, q3, q4, q5⟩ := hr
              exact ⟨β, c, fr, q1, q2, q3, q4, fun i y hy => lift (mv_vr h1 h2 (q5 i y hy))⟩
            | row sz' xs' =>
              obtain ⟨p0, hr⟩ := hr
              refine ⟨p0, hr.imp id ?_⟩
              rintro ⟨β, o, cap, c, e, fr, q1, q2, q3, q4, q5, q6, q7, q8⟩
              exact ⟨β, o, cap, c, e, fr, q1, q2, q3, q4, q5, q6, q7, fun i x j y hx hy => liftD (q8 i x j y hx hy)⟩
  · have back : ∀ j, live (mvH s.hp k k' (.row sz xs)) j → ob (mvΓ Γ k k' j) = some b → ∃ i, live s.hp i ∧ ob (Γ i) = some b ∧ (j = k' ∧ i = k ∨ j ≠ k' ∧ i = j ∧ j ≠ k) := fun j l o => by
      by_cases e : j = k'
      · subst e
        exact ⟨k, by unfold live; rw [h1]; trivial, by simpa [mvΓ] using o, .inl ⟨rfl, rfl⟩⟩
      · by_cases e2 : j = k
        · subst e2
          unfold live at l
          rw [mv_k _ hne] at l
          exact l.elim
        · exact ⟨j, by unfold live at l ⊢; rwa [mv_o _ e e2] at l, by simpa [mvΓ, e] using o, .inr ⟨e, rfl, e2⟩⟩
    obtain ⟨i, l1, o1, q1⟩ := back j ((lv j).1 l) o
    obtain ⟨i', l2, o2, q2⟩ := back j' ((lv j').1 l') o'
    have := R.dis i i' b l1 l2 o1 o2
    subst this
    rcases q1 with ⟨rfl, rfl⟩ | ⟨n1, rfl, n2⟩ <;> rcases q2 with ⟨rfl, e⟩ | ⟨n3, e, n4⟩
    · rfl
    · exact absurd e.symm n4
    · exact absurd e n2
    · exact e
  · obtain ⟨g1, g2, g3⟩ := R.gr g' hg'
    have hlow := R.low g' hg'
    have e : g' ≠ k' := by omega
    have eΓ : mvΓ Γ k k' g' = Γ g' := if_neg e
    dsimp only
    by_cases eg : g' = g
    · subst eg
      rw [hHg, eΓ]
      exact ⟨by simp, fun _ _ h => (by cases h), fun q' cs' h => (by cases h; exact g3 q cs hg)⟩
    · rw [hHo _ eg]
      by_cases e2 : g' = k
      · subst e2
        rw [mv_k _ hne]
        exact ⟨by simp, fun _ _ h => (by cases h), fun _ _ h => (by cases h)⟩
      · rw [mv_o _ e e2, eΓ]
        exact ⟨g1, g2, g3⟩
/-- A slice that is nil, within the variable of key g, gets a key: an empty row. -/
theorem Im.nilB {s : St} (g k : Nat) (sz : Sz) {q : TypeId} {cs : List PV} (i : Nat) (h0 : 0 < sz.sz) (hg : hget s.hp g = some (.box q cs)) (hi : cs[i]? = some .nils) (h2 : hget s.hp k = none) : Im ⟨s.n, s.tm, (g, .box q (cs.set i (.row k 0))) :: (k, .row sz []) :: s.hp⟩ s := fun w0 V M Γ0 h00 a w ⟨Γ, R⟩ => by
  have hne : ∀ g, hget s.hp g ≠ none → g ≠ k := fun g hg e => hg (e ▸ h2)
  have ngk : g ≠ k := hne g (by rw [hg]; simp)
  obtain ⟨Γ', hΓk, hΓ⟩ : ∃ Γ' : Nat → Value, Γ' k = .slice none 0 0 ∧ ∀ g, g ≠ k → Γ' g = Γ g := ⟨fun j => if j = k then .slice none 0 0 else Γ j, if_pos rfl, fun g hg => if_neg hg⟩
  have hgg : hget ((g, HC.box q (cs.set i (.row k 0))) :: (k, HC.row sz []) :: s.hp) g = some (.box q (cs.set i (.row k 0))) := by simp [hget]
  have hold : ∀ j, j ≠ g → j ≠ k → hget ((g, HC.box q (cs.set i (.row k 0))) :: (k, HC.row sz []) :: s.hp) j = hget s.hp j := fun j h1 h2 => by simp [hget, h1, h2]
  have hnew : hget ((g, HC.box q (cs.set i (.row k 0))) :: (k, HC.row sz []) :: s.hp) k = some (.row sz []) := by simp [hget, Ne.symm ngk]
  have grow : Grow Γ Γ' s.hp ((g, HC.box q (cs.set i (.row k 0))) :: (k, HC.row sz []) :: s.hp) := fun j hj => by
    have hk := hne j hj
    rw [hΓ j hk]
    by_cases e : j = g
    · subst e
      rw [hgg]
      exact ⟨by simp, fun _ _ h => (by cases h), fun _ _ h => (by cases h; exact ⟨rfl, cs, hg⟩)⟩
    · rw [hold j e hk]
      exact ⟨hj, fun sz xs h => ⟨xs, h, Nat.le_refl _, fun _ => rfl⟩, fun _ cs' h => ⟨rfl, cs', h⟩⟩
  have lives : ∀ j, j ≠ k → live ((g, HC.box q (cs.set i (.row k 0))) :: (k, HC.row sz []) :: s.hp) j → live s.hp j := fun j hj h => by
    by_cases e : j = g
    · subst e; unfold live; rw [hg]; trivial
    · unfold live at *; rwa [hold j e hj] at h
  have nob : ∀ b, ob (Γ' k) ≠ some b := fun b h => by rw [hΓk] at h; cases h
  have own : ∀ b, Ow Γ' ((g, HC.box q (cs.set i (.row k 0))) :: (k, HC.row sz []) :: s.hp) b → w.heap.size ≤ b ∨ Ow Γ s.hp b := fun b ⟨j, l, o⟩ => by
    by_cases e : j = k
    · subst e; exact absurd o (nob b)
    · rw [hΓ j e] at o; exact .inr ⟨j, lives j e l, o⟩
  have C : Chg V Γ Γ' s.hp ((g, HC.box q (cs.set i (.row k 0))) :: (k, HC.row sz []) :: s.hp) w w := by
    refine ⟨Kp.refl _ _, grow, own, fun j => ?_, fun j j' b l l' e e' => ?_⟩
    · by_cases ek : j = k
      · subst ek
        unfold HR
        rw [hnew]
        exact ⟨h0, .inl ⟨rfl, hΓk⟩⟩
      · by_cases eg : j = g
        · subst eg
          have hr := R.hp j
          unfold HR at hr ⊢
          rw [hg] at hr
          rw [hgg]
          obtain ⟨β, c, fr, q1, q2, q3, q4, q5⟩ := hr
          refine ⟨β, c, fr, by rw [hΓ j ek]; exact q1, q2, by rw [List.length_set]; exact q3, q4, fun m y hy => ?_⟩
          rw [List.getElem?_set] at hy
          split at hy
          · rename_i hm
            subst hm
            split at hy
            · cases hy
              have hn := vr_nils (q5 i .nils hi)
              rw [hn]
              exact .row k 0 _ rfl (by rw [hnew]; simp) fun sz' xs' e => ⟨Nat.zero_le _, fun _ => hΓk.symm⟩
            · cases hy
          · exact vr_lift (Kp.refl _ _) grow own (q5 m y hy)
        · exact hr_keep (Kp.refl _ _) grow own (hold j eg ek) (hΓ j ek) (fun b _ _ _ => rfl) (R.hp j)
    · by_cases ek : j = k
      · subst ek; exact absurd e (nob b)
      · by_cases ek' : j' = k
        · subst ek'; exact absurd e' (nob b)
        · rw [hΓ j ek] at e
          rw [hΓ j' ek'] at e'
          exact R.dis j j' b (lives j ek l) (lives j' ek' l') e e'
  exact ⟨Γ', C.rel R⟩
end Go.Pv

/- What functions of the program and of the reference do, in plain values. -/
namespace Go.Pv
open Go.Proofs Go.Mth
set_option linter.unusedSimpArgs false
set_option linter.unusedVariables false
set_option maxHeartbeats 4000000
set_option maxRecDepth 4000

/-! ### names of files -/
theorem isPow16 : Fn Tryz.prog 262 [.int .i64 16] [] (.bool true) [] := by
  have h : Go.bits .and .i64 16 (16 - 1) = 0 := by decide
  refine fn_x tok (n := 8) (rs := [.tmp 2]) Tryz.func262 (by decide) rfl rfl rfl rfl ?_
  refine Wr.go ?_
  repeat' ((first | (have ee := True.intro; refine Wr.mk ?_) | ((first | refine br_go ?_ ?_ | refine pick_go ?_ ?_) <;> intro ee f <;> (try simp only [BB] at f) <;> (try simp only [numOk, verOk] at f))) <;> (try simp (maxSteps := 1000000) (disch := first | omega | (simp only [LN, numOk, verOk, h, decide_true] <;> omega) | exact Ck.mk rfl) only [ee, VC, T, Nat.reduceMul, Nat.reduceAdd, Nat.reduceSub, Nat.reduceLT, Nat.reduceEqDiff, Nat.reduceLeDiff, Nat.reduceBEq, reduceCtorEq, Int.reduceToNat, ↓reduceIte, h, decide_true]) <;> (try clear ee))
theorem tz16 : Fn Tryz.prog 271 [.int .u64 16] [] (.int .i64 4) [] := by
  have h1 : IntKind.u64.wrap (0 - 16) = 18446744073709551600 := by decide
  have h2 : Go.bits .and .u64 16 18446744073709551600 = 16 := by decide
  have h3 : IntKind.u64.wrap (16 * 285870213051353865) = 4573923408821661840 := by decide
  have h4 : shr .u64 4573923408821661840 58 = 15 := by decide
  have h5 : (glob5.drop 15) = .int .u8 4 :: glob5.drop 16 := by rfl
  refine fn_x tok (n := 14) (rs := [.tmp 2]) Tryz.func271 (by decide) rfl rfl rfl rfl ?_
  refine Wr.go ?_
  repeat' ((first | (have ee := True.intro; refine Wr.mk ?_) | ((first | refine br_go ?_ ?_ | refine pick_go ?_ ?_) <;> intro ee f <;> (try simp only [BB] at f) <;> (try simp only [numOk, verOk] at f))) <;> (try simp (maxSteps := 1000000) (disch := first | omega | (simp only [LN, numOk, verOk, h1, h2, h3, h4, h5, GV, List.length_cons, List.getD_cons_zero] <;> omega) | exact Ck.mk rfl) only [ee, VC, T, Nat.reduceMul, Nat.reduceAdd, Nat.reduceSub, Nat.reduceLT, Nat.reduceEqDiff, Nat.reduceLeDiff, Nat.reduceBEq, reduceCtorEq, Int.reduceToNat, ↓reduceIte, h1, h2, h3, h4, h5, GV, List.length_cons, List.getD_cons_zero]) <;> (try clear ee))
theorem tzu16 : Fn Tryz.prog 263 [.int .u64 16] [] (.int .i64 4) [] := by
  refine fn_x tok (n := 8) (rs := [.tmp 2]) Tryz.func263 (by decide) rfl rfl rfl rfl ?_
  refine Wr.go ?_
  repeat' ((first | (have ee := True.intro; refine Wr.mk ?_) | ((first | refine br_go ?_ ?_ | refine pick_go ?_ ?_) <;> intro ee f <;> (try simp only [BB] at f) <;> (try simp only [numOk, verOk] at f)) | (have ee := True.intro; first | refine call_x (tz16) rfl ⟨rfl⟩ ?_)) <;> (try simp (maxSteps := 1000000) (disch := first | omega | (simp only [LN, numOk, verOk] <;> omega) | exact Ck.mk rfl) only [ee, VC, T, Nat.reduceMul, Nat.reduceAdd, Nat.reduceSub, Nat.reduceLT, Nat.reduceEqDiff, Nat.reduceLeDiff, Nat.reduceBEq, reduceCtorEq, Int.reduceToNat, ↓reduceIte]) <;> (try clear ee))
theorem data_bytes (l : List Int) : (l.map (PV.int .u8)).all data1 = true := by
  rw [List.all_eq_true]
  intro x hx
  obtain ⟨y, _, rfl⟩ := List.mem_map.1 hx
  rfl
theorem digT_at (d : Int) (h0 : 0 ≤ d) (h1 : d < 16) : ((b8 ⟨#[48, 49, 50, 51, 52, 53, 54, 55, 56, 57, 97, 98, 99, 100, 101, 102, 103, 104, 105, 106, 107, 108, 109, 110, 111, 112, 113, 114, 115, 116, 117, 118, 119, 120, 121, 122]⟩ d.toNat).toNat : Int) = hexD d := by
  obtain ⟨n, rfl⟩ := Int.eq_ofNat_of_zero_le h0
  have h : n < 16 := by omega
  revert h
  exact (by decide : ∀ n < 16, ((b8 ⟨#[48, 49, 50, 51, 52, 53, 54, 55, 56, 57, 97, 98, 99, 100, 101, 102, 103, 104, 105, 106, 107, 108, 109, 110, 111, 112, 113, 114, 115, 116, 117, 118, 119, 120, 121, 122]⟩ ((n : Nat) : Int).toNat).toNat : Int) = hexD ((n : Nat) : Int)) n
theorem hexT_at (d : Int) (h0 : 0 ≤ d) (h1 : d < 16) : ((b8 ⟨#[48, 49, 50, 51, 52, 53, 54, 55, 56, 57, 97, 98, 99, 100, 101, 102]⟩ d.toNat).toNat : Int) = hexD d := by
  obtain ⟨n, rfl⟩ := Int.eq_ofNat_of_zero_le h0
  have h : n < 16 := by omega
  revert h
  exact (by decide : ∀ n < 16, ((b8 ⟨#[48, 49, 50, 51, 52, 53, 54, 55, 56, 57, 97, 98, 99, 100, 101, 102]⟩ ((n : Nat) : Int).toNat).toNat : Int) = hexD ((n : Nat) : Int)) n
theorem clo_bytes (hp : Hp) (k : IntKind) (l : List Int) : clol (clo2 hp) (l.map (PV.int k)) = True := by
  induction l with
  | nil => rfl
  | cons x l ih => exact eq_true ⟨trivial, of_eq_true ih⟩
theorem and_u15 (u : Int) (h0 : 0 ≤ u) (h1 : u < 4294967296) : Go.bits .and .u64 u 15 = u % 16 := by
  obtain ⟨n, rfl⟩ := Int.eq_ofNat_of_zero_le h0
  have h4 : Go.bits .and .u64 (n : Int) 15 = IntKind.u64.wrap ((BitVec.ofInt 64 (n : Int) &&& BitVec.ofInt 64 15).toNat : Int) := rfl
  have h5 : n % 2 ^ 4 < 2 ^ 4 := Nat.mod_lt _ (by decide)
  rw [h4, BitVec.ofInt_natCast, BitVec.toNat_and, BitVec.toNat_ofNat, show (BitVec.ofInt 64 15).toNat = 2 ^ 4 - 1 from rfl, Nat.mod_eq_of_lt (by omega), Nat.and_two_pow_sub_one_eq_mod]
  show (((n % 2 ^ 4 : Nat) : Int)) % 18446744073709551616 = _
  omega
theorem shr4 (u : Int) (h0 : 0 ≤ u) : shr .u64 u 4 = u / 16 := by
  show u.fdiv 16 = _
  exact Int.fdiv_eq_ediv_of_nonneg u (by decide)
theorem laid_take (L : List Int) (h : L.length ≤ 7) : List.take (0 + (65 - (L.length : Int) - 1).toNat * 1) (List.replicate (65 - L.length) (0 : Int) ++ L) = List.replicate (64 - L.length) 0 := by
  rw [show 0 + (65 - (L.length : Int) - 1).toNat * 1 = 64 - L.length by omega, List.take_append_of_le_length (by rw [List.length_replicate]; omega), List.take_replicate]
  congr 1; omega
theorem laid_drop (L : List Int) (h : L.length ≤ 7) : List.drop (0 + (65 - (L.length : Int) - 1).toNat * 1 + 1) (List.replicate (65 - L.length) (0 : Int) ++ L) = L := by
  exact List.drop_left' (by rw [List.length_replicate]; omega)
theorem laid_all (L : List Int) (d : Int) (h : L.length ≤ 7) : List.drop (65 - (L.length : Int) - 1).toNat (List.take 65 (List.map (PV.int .u8) (List.replicate (64 - L.length) 0 ++ [d]) ++ List.map (PV.int .u8) L)) = List.map (PV.int .u8) (d :: L) := by
  rw [← List.map_append, List.append_assoc, List.take_of_length_le (by simp; omega), List.map_append]
  exact List.drop_left' (by simp; omega)
theorem fmtBits (n : Int) (h0 : 0 ≤ n) (h1 : n < 4294967296) : FnV Tryz.prog 237 [.far [], .int .u64 n, .int .i64 16, .bool false, .bool false] (fun r => ∃ k : Nat, k < 8 ∧ n < 16 ^ (k + 1) ∧ r = .tup [.far [], .str (strOf (hexL (k + 1) n))]) := by
  refine fn_v tok (n := 102) (rs := [.tmp 10, .tmp 11]) Tryz.func237 (by decide) rfl rfl rfl rfl ?_
  refine Wr.go ?_
  repeat' ((first | (have ee := True.intro; refine Wr.mk ?_) | ((first | refine br_go ?_ ?_ | refine pick_go ?_ ?_) <;> intro ee f <;> (try simp only [BB] at f) <;> (try simp only [numOk, verOk] at f)) | (have ee := True.intro; first | refine call_x (isPow16) rfl ⟨rfl⟩ ?_ | refine call_x (tzu16) rfl ⟨rfl⟩ ?_)) <;> (try simp (maxSteps := 1000000) (disch := first | omega | (simp only [LN, numOk, verOk] <;> omega) | exact Ck.mk rfl) only [ee, VC, T, Nat.reduceMul, Nat.reduceAdd, Nat.reduceSub, Nat.reduceLT, Nat.reduceEqDiff, Nat.reduceLeDiff, Nat.reduceBEq, reduceCtorEq, Int.reduceToNat, ↓reduceIte]) <;> (try clear ee))
  refine lp_go (fun x : Int × List Int => ⟨102, [(1, .int .u64 x.1), (12, .ref 832 0), (13, .int .i64 (65 - x.2.length)), (14, .int .u64 4), (15, .int .u64 16), (16, .int .u64 15), (3, .bool false), (4, .bool false), (10, .nils)], [(832, .box 239 ((List.replicate (65 - x.2.length) (0 : Int) ++ x.2).map (.int .u8)))]⟩) (fun x => Hx n x.1 x.2) (fun x => x.1.toNat) (n, []) ?_ (Hx.start h0) ?_
  · (simp (disch := first | omega | (simp only [LN, numOk, verOk] <;> omega) | exact Ck.mk rfl) only [SB, EQ, Nat.reduceMul, Nat.reduceAdd, Nat.reduceSub, Nat.reduceLT, Nat.reduceEqDiff, Nat.reduceLeDiff, Nat.reduceBEq, reduceCtorEq, Int.reduceToNat, ↓reduceIte]; try omega)
    exact ⟨by omega, rfl, of_eq_true (clo_bytes _ _ _)⟩
  · rintro ⟨u, L⟩ hx N hN
    simp only at hx ⊢
    have hl := hx.len h1
    have hu0 := hx.low
    have hun := hx.le
    have a1 := and_u15 u hu0 (by omega)
    have a2 := shr4 u hu0
    have t1 := laid_take L hl
    have t2 := laid_drop L hl
    have t3 := fun d => laid_all L d hl
    have d1 : bt ⟨#[48, 49, 50, 51, 52, 53, 54, 55, 56, 57, 97, 98, 99, 100, 101, 102, 103, 104, 105, 106, 107, 108, 109, 110, 111, 112, 113, 114, 115, 116, 117, 118, 119, 120, 121, 122]⟩ (u % 16) = hexD (u % 16) := digT_at _ (by omega) (by omega)
    have d2 : u < 16 → bt ⟨#[48, 49, 50, 51, 52, 53, 54, 55, 56, 57, 97, 98, 99, 100, 101, 102, 103, 104, 105, 106, 107, 108, 109, 110, 111, 112, 113, 114, 115, 116, 117, 118, 119, 120, 121, 122]⟩ u = hexD u := fun h => digT_at _ hu0 h
    refine Wr.go ?_
    repeat' ((first | (have ee := True.intro; refine Wr.mk ?_) | ((first | refine br_go ?_ ?_ | refine pick_go ?_ ?_) <;> intro ee f <;> (try simp only [BB] at f) <;> (try simp only [numOk, verOk] at f))) <;> (try simp (maxSteps := 1000000) (disch := first | omega | (simp only [LN, numOk, verOk, a1, a2, t1, t2, t3, d1, d2, List.all_append, data_bytes, Bool.and_self] <;> omega) | exact Ck.mk rfl) only [ee, VC, T, Nat.reduceMul, Nat.reduceAdd, Nat.reduceSub, Nat.reduceLT, Nat.reduceEqDiff, Nat.reduceLeDiff, Nat.reduceBEq, reduceCtorEq, Int.reduceToNat, ↓reduceIte, a1, a2, t1, t2, t3, d1, d2, List.all_append, data_bytes, Bool.and_self]) <;> (try clear ee))
    · refine hN (u / 16, hexD (u % 16) :: L) _ (hx.step f) (by simp only; omega) ?_
      (simp (disch := first | omega | (simp only [LN, numOk, verOk] <;> omega) | exact Ck.mk rfl) only [SB, EQ, Nat.reduceMul, Nat.reduceAdd, Nat.reduceSub, Nat.reduceLT, Nat.reduceEqDiff, Nat.reduceLeDiff, Nat.reduceBEq, reduceCtorEq, Int.reduceToNat, ↓reduceIte]; try omega)
      exact ⟨by omega, by rw [← List.map_append, List.append_assoc, show 65 - (L.length + 1) = 64 - L.length by omega]; rfl, of_eq_true (clo_bytes _ _ _)⟩
    · obtain ⟨q1, q2⟩ := hx.fin f
      rw [show PV.int .u8 (hexD u) :: List.map (PV.int .u8) L = (hexL (L.length + 1) n).map (PV.int .u8) by rw [← q1]; rfl]
      refine ⟨fun z hz => ?_, L.length, by omega, q2, by rw [strP_map .u8 _ rfl]⟩
      obtain ⟨x, hx', rfl⟩ := List.mem_map.1 hz
      have := hexL_range _ _ x hx'
      exact ⟨by omega, by omega⟩
theorem intFormat16 (n : Int) (h0 : 0 ≤ n) (h1 : n < 4294967296) : FnV Tryz.prog 196 [.int .i64 n, .int .i64 16] (fun r => ∃ k : Nat, k < 8 ∧ n < 16 ^ (k + 1) ∧ r = .str (strOf (hexL (k + 1) n))) := by
  have e1 : n % 18446744073709551616 = n := by omega
  have e2 : decide (n < 0) = false := decide_eq_false (by omega)
  refine fn_v tok (n := 54) (rs := [.tmp 4]) Tryz.func196 (by decide) rfl rfl rfl rfl ?_
  refine Wr.go ?_
  repeat' ((first | (have ee := True.intro; refine Wr.mk ?_) | ((first | refine br_go ?_ ?_ | refine pick_go ?_ ?_) <;> intro ee f <;> (try simp only [BB] at f) <;> (try simp only [numOk, verOk] at f))) <;> (try simp (maxSteps := 1000000) (disch := first | omega | (simp only [LN, numOk, verOk, e1, e2] <;> omega) | exact Ck.mk rfl) only [ee, VC, T, Nat.reduceMul, Nat.reduceAdd, Nat.reduceSub, Nat.reduceLT, Nat.reduceEqDiff, Nat.reduceLeDiff, Nat.reduceBEq, reduceCtorEq, Int.reduceToNat, ↓reduceIte, e1, e2]) <;> (try clear ee))
  refine call_v (fmtBits n h0 h1) rfl ?_
  rintro _ ⟨k, hk, hn, rfl⟩
  refine ⟨⟨rfl⟩, ?_⟩
  refine Wr.go ?_
  repeat' ((first | (have ee := True.intro; refine Wr.mk ?_) | ((first | refine br_go ?_ ?_ | refine pick_go ?_ ?_) <;> intro ee f <;> (try simp only [BB] at f) <;> (try simp only [numOk, verOk] at f))) <;> (try simp (maxSteps := 1000000) (disch := first | omega | (simp only [LN, numOk, verOk] <;> omega) | exact Ck.mk rfl) only [ee, VC, T, Nat.reduceMul, Nat.reduceAdd, Nat.reduceSub, Nat.reduceLT, Nat.reduceEqDiff, Nat.reduceLeDiff, Nat.reduceBEq, reduceCtorEq, Int.reduceToNat, ↓reduceIte]) <;> (try clear ee))
  exact ⟨k, hk, hn, rfl⟩
theorem format16 (n : Int) (h0 : 0 ≤ n) (h1 : n < 4294967296) : FnV Tryz.prog 159 [.int .i64 n, .int .i64 16] (fun r => ∃ k : Nat, k < 8 ∧ n < 16 ^ (k + 1) ∧ r = .str (strOf (hexL (k + 1) n))) := by
  refine fn_v tok (n := 8) (rs := [.tmp 4]) Tryz.func159 (by decide) rfl rfl rfl rfl ?_
  refine Wr.go ?_
  repeat' ((first | (have ee := True.intro; refine Wr.mk ?_) | ((first | refine br_go ?_ ?_ | refine pick_go ?_ ?_) <;> intro ee f <;> (try simp only [BB] at f) <;> (try simp only [numOk, verOk] at f))) <;> (try simp (maxSteps := 1000000) (disch := first | omega | (simp only [LN, numOk, verOk] <;> omega) | exact Ck.mk rfl) only [ee, VC, T, Nat.reduceMul, Nat.reduceAdd, Nat.reduceSub, Nat.reduceLT, Nat.reduceEqDiff, Nat.reduceLeDiff, Nat.reduceBEq, reduceCtorEq, Int.reduceToNat, ↓reduceIte]) <;> (try clear ee))
  refine call_v (intFormat16 n h0 h1) rfl ?_
  rintro _ ⟨k, hk, hn, rfl⟩
  refine ⟨⟨rfl⟩, ?_⟩
  refine Wr.go ?_
  repeat' ((first | (have ee := True.intro; refine Wr.mk ?_) | ((first | refine br_go ?_ ?_ | refine pick_go ?_ ?_) <;> intro ee f <;> (try simp only [BB] at f) <;> (try simp only [numOk, verOk] at f))) <;> (try simp (maxSteps := 1000000) (disch := first | omega | (simp only [LN, numOk, verOk] <;> omega) | exact Ck.mk rfl) only [ee, VC, T, Nat.reduceMul, Nat.reduceAdd, Nat.reduceSub, Nat.reduceLT, Nat.reduceEqDiff, Nat.reduceLeDiff, Nat.reduceBEq, reduceCtorEq, Int.reduceToNat, ↓reduceIte]) <;> (try clear ee))
  exact ⟨k, hk, hn, rfl⟩
theorem mul64_1 (c : Int) (h : c = 2 ∨ c = 3 ∨ c = 4 ∨ c = 5 ∨ c = 6 ∨ c = 7) : Fn Tryz.prog 239 [.int .u64 1, .int .u64 c] [] (.tup [.int .u64 0, .int .u64 c]) [] := by
  have h1 : Go.bits .and .u64 1 4294967295 = 1 := by decide
  have h2 : Go.bits .and .u64 0 4294967295 = 0 := by decide
  have h3 : Go.bits .and .u64 c 4294967295 = c := by rcases h with rfl | rfl | rfl | rfl | rfl | rfl <;> decide
  have h4 : shr .u64 1 32 = 0 := by decide
  have h5 : shr .u64 0 32 = 0 := by decide
  have h6 : shr .u64 c 32 = 0 := by rcases h with rfl | rfl | rfl | rfl | rfl | rfl <;> decide
  have h7 : c % 18446744073709551616 = c := by omega
  refine fn_x tok (n := 51) (rs := [.tmp 4, .tmp 5]) Tryz.func239 (by decide) rfl rfl rfl rfl ?_
  refine Wr.go ?_
  repeat' ((first | (have ee := True.intro; refine Wr.mk ?_) | ((first | refine br_go ?_ ?_ | refine pick_go ?_ ?_) <;> intro ee f <;> (try simp only [BB] at f) <;> (try simp only [numOk, verOk] at f))) <;> (try simp (maxSteps := 1000000) (disch := first | omega | (simp only [LN, numOk, verOk, h1, h2, h3, h4, h5, h6, h7, Int.one_mul, Int.zero_mul, Int.mul_zero, Int.add_zero, Int.zero_add, Int.zero_emod] <;> omega) | exact Ck.mk rfl) only [ee, VC, T, Nat.reduceMul, Nat.reduceAdd, Nat.reduceSub, Nat.reduceLT, Nat.reduceEqDiff, Nat.reduceLeDiff, Nat.reduceBEq, reduceCtorEq, Int.reduceToNat, ↓reduceIte, h1, h2, h3, h4, h5, h6, h7, Int.one_mul, Int.zero_mul, Int.mul_zero, Int.add_zero, Int.zero_add, Int.zero_emod]) <;> (try clear ee))
theorem mul_1 (c : Int) (h : c = 2 ∨ c = 3 ∨ c = 4 ∨ c = 5 ∨ c = 6 ∨ c = 7) : Fn Tryz.prog 197 [.int .u64 1, .int .u64 c] [] (.tup [.int .u64 0, .int .u64 c]) [] := by
  refine fn_x tok (n := 30) (rs := [.tmp 4, .tmp 5]) Tryz.func197 (by decide) rfl rfl rfl rfl ?_
  refine Wr.go ?_
  repeat' ((first | (have ee := True.intro; refine Wr.mk ?_) | ((first | refine br_go ?_ ?_ | refine pick_go ?_ ?_) <;> intro ee f <;> (try simp only [BB] at f) <;> (try simp only [numOk, verOk] at f)) | (have ee := True.intro; first | refine call_x (mul64_1 c h) rfl ⟨rfl⟩ ?_)) <;> (try simp (maxSteps := 1000000) (disch := first | omega | (simp only [LN, numOk, verOk] <;> omega) | exact Ck.mk rfl) only [ee, VC, T, Nat.reduceMul, Nat.reduceAdd, Nat.reduceSub, Nat.reduceLT, Nat.reduceEqDiff, Nat.reduceLeDiff, Nat.reduceBEq, reduceCtorEq, Int.reduceToNat, ↓reduceIte]) <;> (try clear ee))
theorem prefixOf0 (s : ByteArray) (h : 1 ≤ s.size) : Fn Tryz.prog 240 [.str s, .str ⟨#[48]⟩] [] (.bool (decide (bt s 0 = 48))) [] := by
  have e : (s.extract 0 1 = ⟨#[48]⟩) = (bt s 0 = 48) := by
    obtain ⟨⟨l⟩⟩ := s
    cases l with
    | nil => exact absurd h (by decide)
    | cons x l =>
      have e1 : ByteArray.extract ⟨⟨x :: l⟩⟩ 0 1 = ⟨#[x]⟩ := ByteArray.ext (by simp [ByteArray.data_extract])
      rw [e1]
      show _ = ((x.toNat : Int) = 48)
      refine propext ⟨fun h => ?_, fun h => ?_⟩
      · have : x = 48 := by simpa using h
        subst this; rfl
      · have : x = 48 := UInt8.toNat.inj (by show x.toNat = 48; omega)
        rw [this]
  refine fn_x tok (n := 18) (rs := [.tmp 4]) Tryz.func240 (by decide) rfl rfl rfl rfl ?_
  refine Wr.go ?_
  repeat' ((first | (have ee := True.intro; refine Wr.mk ?_) | ((first | refine br_go ?_ ?_ | refine pick_go ?_ ?_) <;> intro ee f <;> (try simp only [BB] at f) <;> (try simp only [numOk, verOk] at f))) <;> (try simp (maxSteps := 1000000) (disch := first | omega | (simp only [LN, numOk, verOk, e] <;> omega) | exact Ck.mk rfl) only [ee, VC, T, Nat.reduceMul, Nat.reduceAdd, Nat.reduceSub, Nat.reduceLT, Nat.reduceEqDiff, Nat.reduceLeDiff, Nat.reduceBEq, reduceCtorEq, Int.reduceToNat, ↓reduceIte, e]) <;> (try clear ee))
theorem hasPrefix0 (s : ByteArray) (h : 1 ≤ s.size) : Fn Tryz.prog 198 [.str s, .str ⟨#[48]⟩] [] (.bool (decide (bt s 0 = 48))) [] := by
  refine fn_x tok (n := 8) (rs := [.tmp 4]) Tryz.func198 (by decide) rfl rfl rfl rfl ?_
  refine Wr.go ?_
  repeat' ((first | (have ee := True.intro; refine Wr.mk ?_) | ((first | refine br_go ?_ ?_ | refine pick_go ?_ ?_) <;> intro ee f <;> (try simp only [BB] at f) <;> (try simp only [numOk, verOk] at f)) | (have ee := True.intro; first | refine call_x (prefixOf0 s h) rfl ⟨rfl⟩ ?_)) <;> (try simp (maxSteps := 1000000) (disch := first | omega | (simp only [LN, numOk, verOk] <;> omega) | exact Ck.mk rfl) only [ee, VC, T, Nat.reduceMul, Nat.reduceAdd, Nat.reduceSub, Nat.reduceLT, Nat.reduceEqDiff, Nat.reduceLeDiff, Nat.reduceBEq, reduceCtorEq, Int.reduceToNat, ↓reduceIte]) <;> (try clear ee))
theorem repeat0 (c : Int) (h : 0 ≤ c ∧ c ≤ 7) : Fn Tryz.prog 160 [.str ⟨#[48]⟩, .int .i64 c] [] (.str (strOf (List.replicate c.toNat 48))) [] := by
  obtain rfl | rfl | h : c = 0 ∨ c = 1 ∨ (c = 2 ∨ c = 3 ∨ c = 4 ∨ c = 5 ∨ c = 6 ∨ c = 7) := by omega
  · refine fn_x tok (n := 125) (rs := [.tmp 4]) Tryz.func160 (by decide) rfl rfl rfl rfl ?_
    refine Wr.go ?_
    repeat' ((first | (have ee := True.intro; refine Wr.mk ?_) | ((first | refine br_go ?_ ?_ | refine pick_go ?_ ?_) <;> intro ee f <;> (try simp only [BB] at f) <;> (try simp only [numOk, verOk] at f))) <;> (try simp (maxSteps := 1000000) (disch := first | omega | (simp only [LN, numOk, verOk] <;> omega) | exact Ck.mk rfl) only [ee, VC, T, Nat.reduceMul, Nat.reduceAdd, Nat.reduceSub, Nat.reduceLT, Nat.reduceEqDiff, Nat.reduceLeDiff, Nat.reduceBEq, reduceCtorEq, Int.reduceToNat, ↓reduceIte]) <;> (try clear ee))
    rfl
  · refine fn_x tok (n := 125) (rs := [.tmp 4]) Tryz.func160 (by decide) rfl rfl rfl rfl ?_
    refine Wr.go ?_
    repeat' ((first | (have ee := True.intro; refine Wr.mk ?_) | ((first | refine br_go ?_ ?_ | refine pick_go ?_ ?_) <;> intro ee f <;> (try simp only [BB] at f) <;> (try simp only [numOk, verOk] at f))) <;> (try simp (maxSteps := 1000000) (disch := first | omega | (simp only [LN, numOk, verOk] <;> omega) | exact Ck.mk rfl) only [ee, VC, T, Nat.reduceMul, Nat.reduceAdd, Nat.reduceSub, Nat.reduceLT, Nat.reduceEqDiff, Nat.reduceLeDiff, Nat.reduceBEq, reduceCtorEq, Int.reduceToNat, ↓reduceIte]) <;> (try clear ee))
    rfl
  · have h7 : c % 18446744073709551616 = c := by omega
    have h8 : (1 : Int) % 18446744073709551616 = 1 := by decide
    refine fn_x tok (n := 125) (rs := [.tmp 4]) Tryz.func160 (by decide) rfl rfl rfl rfl ?_
    have b0 : bt ⟨#[48]⟩ 0 = 48 := by decide
    have w1 : ∀ l m : List UInt8, bt ⟨((32 :: l).append m).toArray⟩ 0 = 32 := fun _ _ => rfl
    have w2 : ∀ l m : List UInt8, bt ⟨((45 :: l).append m).toArray⟩ 0 = 45 := fun _ _ => rfl
    have w3 : ∀ l : List UInt8, bt ⟨(48 :: l).toArray⟩ 0 = 48 := fun _ => rfl
    have z1 : ∀ l m : List UInt8, 1 ≤ ByteArray.size ⟨((32 :: l).append m).toArray⟩ := fun l m => Nat.succ_le_succ (Nat.zero_le _)
    have z2 : ∀ l m : List UInt8, 1 ≤ ByteArray.size ⟨((45 :: l).append m).toArray⟩ := fun l m => Nat.succ_le_succ (Nat.zero_le _)
    have z3 : ∀ l : List UInt8, 1 ≤ ByteArray.size ⟨(48 :: l).toArray⟩ := fun l => Nat.succ_le_succ (Nat.zero_le _)
    refine Wr.go ?_
    repeat' ((first | (have ee := True.intro; refine Wr.mk ?_) | ((first | refine br_go ?_ ?_ | refine pick_go ?_ ?_) <;> intro ee f <;> (try simp only [BB] at f) <;> (try simp only [numOk, verOk] at f)) | (have ee := True.intro; first | refine call_x (mul_1 c h) rfl ⟨rfl⟩ ?_ | refine call_x (hasPrefix0 _ (z1 _ _)) rfl ⟨rfl⟩ ?_ | refine call_x (hasPrefix0 _ (z2 _ _)) rfl ⟨rfl⟩ ?_ | refine call_x (hasPrefix0 _ (z3 _)) rfl ⟨rfl⟩ ?_)) <;> (try simp (maxSteps := 1000000) (disch := first | omega | (simp only [LN, numOk, verOk, h7, h8, b0, w1, w2, w3, decide_true] <;> omega) | exact Ck.mk rfl) only [ee, VC, T, Nat.reduceMul, Nat.reduceAdd, Nat.reduceSub, Nat.reduceLT, Nat.reduceEqDiff, Nat.reduceLeDiff, Nat.reduceBEq, reduceCtorEq, Int.reduceToNat, ↓reduceIte, h7, h8, b0, w1, w2, w3, decide_true]) <;> (try clear ee))
    rcases h with rfl | rfl | rfl | rfl | rfl | rfl <;> rfl
theorem strOf_app (l m : List Int) : strOf (l ++ m) = strOf l ++ strOf m := by
  unfold strOf
  refine ByteArray.ext ?_
  rw [ByteArray.data_append, List.map_append, List.append_toArray]
theorem shr16 (n : Int) (j : Nat) (h0 : 0 ≤ n) (h : j ≤ 7) : shr .i64 n (4 * (7 - (j : Int)) % 18446744073709551616) = n / 16 ^ (7 - j) := by
  unfold shr
  have e : min (4 * (7 - (j : Int)) % 18446744073709551616).toNat IntKind.i64.bits = 4 * (7 - j) := by
    show min _ 64 = _
    omega
  rw [e, Int.pow_mul]
  exact Int.fdiv_eq_ediv_of_nonneg _ (Int.le_of_lt (Int.pow_pos (by decide)))
theorem hex_next (n : Int) (j : Nat) (h : j ≤ 7) : hexL (j + 1) (n / 16 ^ (8 - (j + 1))) = hexL j (n / 16 ^ (8 - j)) ++ [hexD (n / 16 ^ (7 - j) % 16)] := by
  rw [hexL, show 8 - (j + 1) = 7 - j by omega, Int.ediv_ediv_of_nonneg (Int.le_of_lt (Int.pow_pos (by decide))), ← Int.pow_succ, show (7 - j).succ = 8 - j by omega]
theorem segT_form (n : Int) (h : numOk n) (k : Nat) (hk : k < 8) (hn : n < 16 ^ (k + 1)) : ⟨#[115]⟩ ++ strOf (List.replicate (8 - ((k : Int) + 1)).toNat 48) ++ strOf (hexL (k + 1) n) ++ ⟨#[46, 115, 101, 103]⟩ = segT n := by
  have e := hexL_pad (k + 1) (8 - (k + 1)) n h.1 hn
  rw [show k + 1 + (8 - (k + 1)) = 8 by omega] at e
  unfold segT segL
  rw [if_pos h, e, show (8 - ((k : Int) + 1)).toNat = 8 - (k + 1) by omega]
  rw [strOf_app ([115] ++ (List.replicate (8 - (k + 1)) 48 ++ hexL (k + 1) n)), strOf_app [115], strOf_app (List.replicate (8 - (k + 1)) 48), ByteArray.append_assoc, ByteArray.append_assoc, ByteArray.append_assoc, ByteArray.append_assoc]
  rfl
theorem impl_SegmentName (n : Int) (hn : i64 n) : Fn Tryz.prog 111 [.int .i64 n] [] (.str (segT n)) [] := by
  by_cases h : numOk n
  · have hs := segT_form n h
    generalize segT n = q at *
    obtain ⟨h0, h1⟩ := h
    refine fn_x tok (n := 17) (rs := [.tmp 2]) Tryz.func111 (by decide) rfl rfl rfl rfl ?_
    refine Wr.go ?_
    repeat' ((first | (have ee := True.intro; refine Wr.mk ?_) | ((first | refine br_go ?_ ?_ | refine pick_go ?_ ?_) <;> intro ee f <;> (try simp only [BB] at f) <;> (try simp only [numOk, verOk] at f)) | (have ee := True.intro; first | refine call_x (impl_isNumber n) rfl ⟨rfl⟩ ?_)) <;> (try simp (maxSteps := 1000000) (disch := first | omega | (simp only [LN, numOk, verOk] <;> omega) | exact Ck.mk rfl) only [ee, VC, T, Nat.reduceMul, Nat.reduceAdd, Nat.reduceSub, Nat.reduceLT, Nat.reduceEqDiff, Nat.reduceLeDiff, Nat.reduceBEq, reduceCtorEq, Int.reduceToNat, ↓reduceIte]) <;> (try clear ee))
    refine call_v (format16 n h0 (by omega)) rfl ?_
    rintro _ ⟨k, hk, hx, rfl⟩
    refine ⟨⟨rfl⟩, ?_⟩
    have hz := strOf_size (hexL (k + 1) n)
    rw [hexL_length] at hz
    have hr := repeat0 (8 - ((k : Int) + 1)) (by omega)
    have hz2 := strOf_size (List.replicate (8 - ((k : Int) + 1)).toNat 48)
    rw [List.length_replicate] at hz2
    have hs := hs k hk hx
    refine Wr.go ?_
    repeat' ((first | (have ee := True.intro; refine Wr.mk ?_) | ((first | refine br_go ?_ ?_ | refine pick_go ?_ ?_) <;> intro ee f <;> (try simp only [BB] at f) <;> (try simp only [numOk, verOk] at f)) | (have ee := True.intro; first | refine call_x (hr) rfl ⟨rfl⟩ ?_)) <;> (try simp (maxSteps := 1000000) (disch := first | omega | (simp only [LN, numOk, verOk, hz] <;> omega) | exact Ck.mk rfl) only [ee, VC, T, Nat.reduceMul, Nat.reduceAdd, Nat.reduceSub, Nat.reduceLT, Nat.reduceEqDiff, Nat.reduceLeDiff, Nat.reduceBEq, reduceCtorEq, Int.reduceToNat, ↓reduceIte, hz]) <;> (try clear ee))
    rw [← hs]
  · have e : segT n = ⟨#[]⟩ := if_neg h
    rw [e]
    refine fn_x tok (n := 17) (rs := [.tmp 2]) Tryz.func111 (by decide) rfl rfl rfl rfl ?_
    refine Wr.go ?_
    repeat' ((first | (have ee := True.intro; refine Wr.mk ?_) | ((first | refine br_go ?_ ?_ | refine pick_go ?_ ?_) <;> intro ee f <;> (try simp only [BB] at f) <;> (try simp only [numOk, verOk] at f)) | (have ee := True.intro; first | refine call_x (impl_isNumber n) rfl ⟨rfl⟩ ?_)) <;> (try simp (maxSteps := 1000000) (disch := first | omega | (simp only [LN, numOk, verOk] <;> omega) | exact Ck.mk rfl) only [ee, VC, T, Nat.reduceMul, Nat.reduceAdd, Nat.reduceSub, Nat.reduceLT, Nat.reduceEqDiff, Nat.reduceLeDiff, Nat.reduceBEq, reduceCtorEq, Int.reduceToNat, ↓reduceIte]) <;> (try clear ee))
theorem spec_SegmentName (n : Int) (hn : i64 n) : Fn Tryz.prog 126 [.int .i64 n] [] (.str (segT n)) [] := by
  by_cases h : numOk n
  · have e : segT n = strOf (segL n) := if_pos h
    rw [e]
    obtain ⟨h0, h1⟩ := h
    refine fn_x tok (n := 27) (rs := [.tmp 2]) Tryz.func126 (by decide) rfl rfl rfl rfl ?_
    refine Wr.go ?_
    repeat' ((first | (have ee := True.intro; refine Wr.mk ?_) | ((first | refine br_go ?_ ?_ | refine pick_go ?_ ?_) <;> intro ee f <;> (try simp only [BB] at f) <;> (try simp only [numOk, verOk] at f)) | (have ee := True.intro; first | refine call_x (spec_l01In _ _ _) rfl ⟨rfl⟩ ?_)) <;> (try simp (maxSteps := 1000000) (disch := first | omega | (simp only [LN, numOk, verOk] <;> omega) | exact Ck.mk rfl) only [ee, VC, T, Nat.reduceMul, Nat.reduceAdd, Nat.reduceSub, Nat.reduceLT, Nat.reduceEqDiff, Nat.reduceLeDiff, Nat.reduceBEq, reduceCtorEq, Int.reduceToNat, ↓reduceIte]) <;> (try clear ee))
    refine lp_go (fun j : Nat => ⟨27, [(0, .int .i64 n), (3, .row 576 j), (4, .int .i64 (7 - j))], [(576, .row ⟨1, 0⟩ ((hexL j (n / 16 ^ (8 - j))).map (.int .u8)))]⟩) (fun j => j ≤ 8) (fun j => 8 - j) 0 ?_ (by decide) ?_
    · (simp (disch := first | omega | (simp only [LN, numOk, verOk] <;> omega) | exact Ck.mk rfl) only [SB, EQ, Nat.reduceMul, Nat.reduceAdd, Nat.reduceSub, Nat.reduceLT, Nat.reduceEqDiff, Nat.reduceLeDiff, Nat.reduceBEq, reduceCtorEq, Int.reduceToNat, ↓reduceIte]; try omega)
      exact ⟨rfl, rfl⟩
    · intro j hj N hN
      have a1 : ∀ s, Go.bits .and .i64 s 15 = s % 16 := fun s => and_mask64 s 4 (by decide)
      have a2 := shr16 n j h0
      have a3 := hexL_length j (n / 16 ^ (8 - j))
      have a4 : bt ⟨#[48, 49, 50, 51, 52, 53, 54, 55, 56, 57, 97, 98, 99, 100, 101, 102]⟩ (n / 16 ^ (7 - j) % 16) = hexD (n / 16 ^ (7 - j) % 16) := hexT_at _ (by omega) (by omega)
      have a5 := hex_next n j
      refine Wr.go ?_
      repeat' ((first | (have ee := True.intro; refine Wr.mk ?_) | ((first | refine br_go ?_ ?_ | refine pick_go ?_ ?_) <;> intro ee f <;> (try simp only [BB] at f) <;> (try simp only [numOk, verOk] at f))) <;> (try simp (maxSteps := 1000000) (disch := first | omega | (simp only [LN, numOk, verOk, a1, a2, a3, a4] <;> omega) | exact Ck.mk rfl) only [ee, VC, T, Nat.reduceMul, Nat.reduceAdd, Nat.reduceSub, Nat.reduceLT, Nat.reduceEqDiff, Nat.reduceLeDiff, Nat.reduceBEq, reduceCtorEq, Int.reduceToNat, ↓reduceIte, a1, a2, a3, a4]) <;> (try clear ee))
      · refine hN (j + 1) _ (by omega) (by omega) ?_
        rw [a5 (by omega)]
        (simp (disch := first | omega | (simp only [LN, numOk, verOk] <;> omega) | exact Ck.mk rfl) only [SB, EQ, Nat.reduceMul, Nat.reduceAdd, Nat.reduceSub, Nat.reduceLT, Nat.reduceEqDiff, Nat.reduceLeDiff, Nat.reduceBEq, reduceCtorEq, Int.reduceToNat, ↓reduceIte]; try omega)
      · obtain rfl : j = 8 := by omega
        have hz := strOf_size (hexL 8 (n / 16 ^ (8 - 8)))
        rw [hexL_length] at hz
        refine ⟨fun x hx => ?_, by omega, by omega, ?_⟩
        · have := hexL_range _ _ x hx
          omega
        · rw [show n / 16 ^ (8 - 8) = n by simp]
          unfold segL
          rw [strOf_app, strOf_app]
          rfl
  · have e : segT n = ⟨#[]⟩ := if_neg h
    rw [e]
    refine fn_x tok (n := 27) (rs := [.tmp 2]) Tryz.func126 (by decide) rfl rfl rfl rfl ?_
    refine Wr.go ?_
    repeat' ((first | (have ee := True.intro; refine Wr.mk ?_) | ((first | refine br_go ?_ ?_ | refine pick_go ?_ ?_) <;> intro ee f <;> (try simp only [BB] at f) <;> (try simp only [numOk, verOk] at f)) | (have ee := True.intro; first | refine call_x (spec_l01In _ _ _) rfl ⟨rfl⟩ ?_)) <;> (try simp (maxSteps := 1000000) (disch := first | omega | (simp only [LN, numOk, verOk] <;> omega) | exact Ck.mk rfl) only [ee, VC, T, Nat.reduceMul, Nat.reduceAdd, Nat.reduceSub, Nat.reduceLT, Nat.reduceEqDiff, Nat.reduceLeDiff, Nat.reduceBEq, reduceCtorEq, Int.reduceToNat, ↓reduceIte]) <;> (try clear ee))
    · exact absurd f h
end Go.Pv

/- What functions of the program and of the reference do, in plain values. -/
namespace Go.Pv
open Go.Proofs Go.Mth
set_option linter.unusedSimpArgs false
set_option linter.unusedVariables false
set_option maxHeartbeats 4000000
set_option maxRecDepth 4000

/-! ### disks: nodes and entries, files -/
def ndP (x : Nd) : PV := .agg [.int .i64 x.1, .str x.2.1, .int .i64 x.2.2]
def enP (x : Et) : PV := .agg [.str x.1, .int .i64 x.2]
def dkP (d : Dk) : PV := .agg [.far (d.1.map ndP), .far (d.2.1.map enP), .far (d.2.2.1.map enP), .far (d.2.2.2.1.map .str), .int .i64 d.2.2.2.2.1, .int .i64 d.2.2.2.2.2]
theorem impl_placeOf_lit (x : Et) (n : ByteArray) : Fn Tryz.prog 257 [enP x, .fel [.str n]] [] (.bool (decide (x.1 = n))) [] := by
  obtain ⟨a, b⟩ := x
  unfold enP
  refine fn_x tok (n := 8) (rs := [.tmp 3]) Tryz.func257 (by decide) rfl rfl rfl rfl ?_
  refine Wr.go ?_
  repeat' ((first | (have ee := True.intro; refine Wr.mk ?_) | ((first | refine br_go ?_ ?_ | refine pick_go ?_ ?_) <;> intro ee f <;> (try simp only [BB] at f) <;> (try simp only [numOk, verOk] at f))) <;> (try simp (maxSteps := 1000000) (disch := first | omega | (simp only [LN, numOk, verOk, rfP, rvP, rhP, frP] <;> omega) | exact Ck.mk rfl) only [ee, VC, T, Nat.reduceMul, Nat.reduceAdd, Nat.reduceSub, Nat.reduceLT, Nat.reduceEqDiff, Nat.reduceLeDiff, Nat.reduceBEq, reduceCtorEq, Int.reduceToNat, ↓reduceIte, rfP, rvP, rhP, frP]) <;> (try clear ee))
theorem impl_nodeOf_lit (x : Nd) (n : Int) : Fn Tryz.prog 259 [ndP x, .fel [.int .i64 n]] [] (.bool (decide (x.1 = n))) [] := by
  obtain ⟨a, b, c⟩ := x
  unfold ndP
  refine fn_x tok (n := 8) (rs := [.tmp 3]) Tryz.func259 (by decide) rfl rfl rfl rfl ?_
  refine Wr.go ?_
  repeat' ((first | (have ee := True.intro; refine Wr.mk ?_) | ((first | refine br_go ?_ ?_ | refine pick_go ?_ ?_) <;> intro ee f <;> (try simp only [BB] at f) <;> (try simp only [numOk, verOk] at f))) <;> (try simp (maxSteps := 1000000) (disch := first | omega | (simp only [LN, numOk, verOk, rfP, rvP, rhP, frP] <;> omega) | exact Ck.mk rfl) only [ee, VC, T, Nat.reduceMul, Nat.reduceAdd, Nat.reduceSub, Nat.reduceLT, Nat.reduceEqDiff, Nat.reduceLeDiff, Nat.reduceBEq, reduceCtorEq, Int.reduceToNat, ↓reduceIte, rfP, rvP, rhP, frP]) <;> (try clear ee))
theorem indexE (es : List Et) (n : ByteArray) (hl : es.length ≤ 1048576) : Fn Tryz.prog 256 [.far (es.map enP), .fn (.func 257) [.fel [.str n]]] [] (.int .i64 (placeI es n)) [] := by
  have hst := findI_step (fun e : Et => decide (e.1 = n)) es
  have hen := findI_end (fun e : Et => decide (e.1 = n)) es
  refine fn_x tok (n := 19) (rs := [.tmp 4]) Tryz.func256 (by decide) rfl rfl rfl rfl ?_
  refine Wr.go ?_
  repeat' ((first | (have ee := True.intro; refine Wr.mk ?_) | ((first | refine br_go ?_ ?_ | refine pick_go ?_ ?_) <;> intro ee f <;> (try simp only [BB] at f) <;> (try simp only [numOk, verOk] at f))) <;> (try simp (maxSteps := 1000000) (disch := first | omega | (simp only [LN, numOk, verOk, rfP, rvP, rhP, frP] <;> omega) | exact Ck.mk rfl) only [ee, VC, T, Nat.reduceMul, Nat.reduceAdd, Nat.reduceSub, Nat.reduceLT, Nat.reduceEqDiff, Nat.reduceLeDiff, Nat.reduceBEq, reduceCtorEq, Int.reduceToNat, ↓reduceIte, rfP, rvP, rhP, frP]) <;> (try clear ee))
  refine lp_go (fun i : Nat => ⟨19, [(0, .far (es.map enP)), (1, .fn (.func 257) [.fel [.str n]]), (7, .int .i64 es.length), (8, .int .i64 i)], []⟩) (fun i => i ≤ es.length ∧ placeI es n = findI (fun e => decide (e.1 = n)) (es.drop i) i) (fun i => es.length - i) 0 ?_ ⟨Nat.zero_le _, rfl⟩ ?_
  · (simp (disch := first | omega | (simp only [LN, numOk, verOk] <;> omega) | exact Ck.mk rfl) only [SB, EQ, Nat.reduceMul, Nat.reduceAdd, Nat.reduceSub, Nat.reduceLT, Nat.reduceEqDiff, Nat.reduceLeDiff, Nat.reduceBEq, reduceCtorEq, Int.reduceToNat, ↓reduceIte]; try omega)
  · rintro i ⟨h1, h2⟩ N hN
    have hg : i < es.length → (es.map enP).getD i .junk = .agg [.str (es.getD i default).1, .int .i64 (es.getD i default).2] := fun h => by
      rw [List.getD_eq_getElem?_getD, List.getElem?_map, List.getElem?_eq_getElem h, List.getD_eq_getElem?_getD, List.getElem?_eq_getElem h]; rfl
    have hst := hst i
    have hen := hen i
    refine Wr.go ?_
    repeat' ((first | (have ee := True.intro; refine Wr.mk ?_) | ((first | refine br_go ?_ ?_ | refine pick_go ?_ ?_) <;> intro ee f <;> (try simp only [BB] at f) <;> (try simp only [numOk, verOk] at f)) | (have ee := True.intro; first | refine call_x (impl_placeOf_lit (es.getD i default) n) rfl ⟨rfl⟩ ?_)) <;> (try simp (maxSteps := 1000000) (disch := first | omega | (simp only [LN, numOk, verOk, rfP, rvP, rhP, frP, hg] <;> omega) | exact Ck.mk rfl) only [ee, VC, T, Nat.reduceMul, Nat.reduceAdd, Nat.reduceSub, Nat.reduceLT, Nat.reduceEqDiff, Nat.reduceLeDiff, Nat.reduceBEq, reduceCtorEq, Int.reduceToNat, ↓reduceIte, rfP, rvP, rhP, frP, hg]) <;> (try clear ee))
    · rw [h2, hst (by omega), if_pos (decide_eq_true f)]
    · refine hN (i + 1) _ ⟨by omega, ?_⟩ (by omega) ?_
      · rw [h2, hst (by omega), if_neg (by rw [decide_eq_false f]; decide)]
      · (simp (disch := first | omega | (simp only [LN, numOk, verOk] <;> omega) | exact Ck.mk rfl) only [SB, EQ, Nat.reduceMul, Nat.reduceAdd, Nat.reduceSub, Nat.reduceLT, Nat.reduceEqDiff, Nat.reduceLeDiff, Nat.reduceBEq, reduceCtorEq, Int.reduceToNat, ↓reduceIte]; try omega)
    · rw [h2, hen (by omega)]
theorem indexN (es : List Nd) (n : Int) (hl : es.length ≤ 1048576) : Fn Tryz.prog 258 [.far (es.map ndP), .fn (.func 259) [.fel [.int .i64 n]]] [] (.int .i64 (nodeI es n)) [] := by
  have hst := findI_step (fun e : Nd => decide (e.1 = n)) es
  have hen := findI_end (fun e : Nd => decide (e.1 = n)) es
  refine fn_x tok (n := 19) (rs := [.tmp 4]) Tryz.func258 (by decide) rfl rfl rfl rfl ?_
  refine Wr.go ?_
  repeat' ((first | (have ee := True.intro; refine Wr.mk ?_) | ((first | refine br_go ?_ ?_ | refine pick_go ?_ ?_) <;> intro ee f <;> (try simp only [BB] at f) <;> (try simp only [numOk, verOk] at f))) <;> (try simp (maxSteps := 1000000) (disch := first | omega | (simp only [LN, numOk, verOk, rfP, rvP, rhP, frP] <;> omega) | exact Ck.mk rfl) only [ee, VC, T, Nat.reduceMul, Nat.reduceAdd, Nat.reduceSub, Nat.reduceLT, Nat.reduceEqDiff, Nat.reduceLeDiff, Nat.reduceBEq, reduceCtorEq, Int.reduceToNat, ↓reduceIte, rfP, rvP, rhP, frP]) <;> (try clear ee))
  refine lp_go (fun i : Nat => ⟨19, [(0, .far (es.map ndP)), (1, .fn (.func 259) [.fel [.int .i64 n]]), (7, .int .i64 es.length), (8, .int .i64 i)], []⟩) (fun i => i ≤ es.length ∧ nodeI es n = findI (fun e => decide (e.1 = n)) (es.drop i) i) (fun i => es.length - i) 0 ?_ ⟨Nat.zero_le _, rfl⟩ ?_
  · (simp (disch := first | omega | (simp only [LN, numOk, verOk] <;> omega) | exact Ck.mk rfl) only [SB, EQ, Nat.reduceMul, Nat.reduceAdd, Nat.reduceSub, Nat.reduceLT, Nat.reduceEqDiff, Nat.reduceLeDiff, Nat.reduceBEq, reduceCtorEq, Int.reduceToNat, ↓reduceIte]; try omega)
  · rintro i ⟨h1, h2⟩ N hN
    have hg : i < es.length → (es.map ndP).getD i .junk = .agg [.int .i64 (es.getD i default).1, .str (es.getD i default).2.1, .int .i64 (es.getD i default).2.2] := fun h => by
      rw [List.getD_eq_getElem?_getD, List.getElem?_map, List.getElem?_eq_getElem h, List.getD_eq_getElem?_getD, List.getElem?_eq_getElem h]; rfl
    have hst := hst i
    have hen := hen i
    refine Wr.go ?_
    repeat' ((first | (have ee := True.intro; refine Wr.mk ?_) | ((first | refine br_go ?_ ?_ | refine pick_go ?_ ?_) <;> intro ee f <;> (try simp only [BB] at f) <;> (try simp only [numOk, verOk] at f)) | (have ee := True.intro; first | refine call_x (impl_nodeOf_lit (es.getD i default) n) rfl ⟨rfl⟩ ?_)) <;> (try simp (maxSteps := 1000000) (disch := first | omega | (simp only [LN, numOk, verOk, rfP, rvP, rhP, frP, hg] <;> omega) | exact Ck.mk rfl) only [ee, VC, T, Nat.reduceMul, Nat.reduceAdd, Nat.reduceSub, Nat.reduceLT, Nat.reduceEqDiff, Nat.reduceLeDiff, Nat.reduceBEq, reduceCtorEq, Int.reduceToNat, ↓reduceIte, rfP, rvP, rhP, frP, hg]) <;> (try clear ee))
    · rw [h2, hst (by omega), if_pos (decide_eq_true f)]
    · refine hN (i + 1) _ ⟨by omega, ?_⟩ (by omega) ?_
      · rw [h2, hst (by omega), if_neg (by rw [decide_eq_false f]; decide)]
      · (simp (disch := first | omega | (simp only [LN, numOk, verOk] <;> omega) | exact Ck.mk rfl) only [SB, EQ, Nat.reduceMul, Nat.reduceAdd, Nat.reduceSub, Nat.reduceLT, Nat.reduceEqDiff, Nat.reduceLeDiff, Nat.reduceBEq, reduceCtorEq, Int.reduceToNat, ↓reduceIte]; try omega)
    · rw [h2, hen (by omega)]
theorem impl_placeOf (es : List Et) (n : ByteArray) (hl : es.length ≤ 1048576) : Fn Tryz.prog 232 [.far (es.map enP), .str n] [] (.int .i64 (placeI es n)) [] := by
  refine fn_x tok (n := 8) (rs := [.tmp 4]) Tryz.func232 (by decide) rfl rfl rfl rfl ?_
  refine Wr.go ?_
  repeat' ((first | (have ee := True.intro; refine Wr.mk ?_) | ((first | refine br_go ?_ ?_ | refine pick_go ?_ ?_) <;> intro ee f <;> (try simp only [BB] at f) <;> (try simp only [numOk, verOk] at f)) | (have ee := True.intro; first | (refine call_hx [] [256] (indexE es n hl) (by decide) ?_ rfl ?_; (focus (first | rfl | (simp (maxSteps := 1000000) (disch := first | omega | (simp only [LN, numOk, verOk, rfP, rvP, rhP, frP] <;> omega) | exact Ck.mk rfl) only [VC, T, Nat.reduceMul, Nat.reduceAdd, Nat.reduceSub, Nat.reduceLT, Nat.reduceEqDiff, Nat.reduceLeDiff, Nat.reduceBEq, reduceCtorEq, Int.reduceToNat, ↓reduceIte, rfP, rvP, rhP, frP]; done)))))) <;> (try simp (maxSteps := 1000000) (disch := first | omega | (simp only [LN, numOk, verOk, rfP, rvP, rhP, frP] <;> omega) | exact Ck.mk rfl) only [ee, VC, T, Nat.reduceMul, Nat.reduceAdd, Nat.reduceSub, Nat.reduceLT, Nat.reduceEqDiff, Nat.reduceLeDiff, Nat.reduceBEq, reduceCtorEq, Int.reduceToNat, ↓reduceIte, rfP, rvP, rhP, frP]) <;> (try clear ee))
theorem impl_nodeOf (d : Dk) (k : Int) (hl : d.1.length ≤ 1048576) : Fn Tryz.prog 233 [dkP d, .int .i64 k] [] (.int .i64 (nodeI d.1 k)) [] := by
  unfold dkP
  refine fn_x tok (n := 9) (rs := [.tmp 4]) Tryz.func233 (by decide) rfl rfl rfl rfl ?_
  refine Wr.go ?_
  repeat' ((first | (have ee := True.intro; refine Wr.mk ?_) | ((first | refine br_go ?_ ?_ | refine pick_go ?_ ?_) <;> intro ee f <;> (try simp only [BB] at f) <;> (try simp only [numOk, verOk] at f)) | (have ee := True.intro; first | (refine call_hx [] [256] (indexN d.1 k hl) (by decide) ?_ rfl ?_; (focus (first | rfl | (simp (maxSteps := 1000000) (disch := first | omega | (simp only [LN, numOk, verOk, rfP, rvP, rhP, frP] <;> omega) | exact Ck.mk rfl) only [VC, T, Nat.reduceMul, Nat.reduceAdd, Nat.reduceSub, Nat.reduceLT, Nat.reduceEqDiff, Nat.reduceLeDiff, Nat.reduceBEq, reduceCtorEq, Int.reduceToNat, ↓reduceIte, rfP, rvP, rhP, frP]; done)))))) <;> (try simp (maxSteps := 1000000) (disch := first | omega | (simp only [LN, numOk, verOk, rfP, rvP, rhP, frP] <;> omega) | exact Ck.mk rfl) only [ee, VC, T, Nat.reduceMul, Nat.reduceAdd, Nat.reduceSub, Nat.reduceLT, Nat.reduceEqDiff, Nat.reduceLeDiff, Nat.reduceBEq, reduceCtorEq, Int.reduceToNat, ↓reduceIte, rfP, rvP, rhP, frP]) <;> (try clear ee))
theorem impl_nodeAt (d : Dk) (n : ByteArray) (h : DkOk d) : Fn Tryz.prog 195 [dkP d, .str n] [] (.int .i64 (nodeP d n)) [] := by
  have hp := impl_placeOf d.2.1 n h.es
  have hr := placeI_r d.2.1 n
  have hn := fun k => impl_nodeOf d k h.ns
  unfold nodeP
  unfold dkP at *
  generalize placeI d.2.1 n = p at *
  have hg : (p.toNat < d.2.1.length) → (d.2.1.map enP).getD p.toNat .junk = .agg [.str (d.2.1.getD p.toNat default).1, .int .i64 (d.2.1.getD p.toNat default).2] := fun h => by
    rw [List.getD_eq_getElem?_getD, List.getElem?_map, List.getElem?_eq_getElem h, List.getD_eq_getElem?_getD, List.getElem?_eq_getElem h]; rfl
  refine fn_x tok (n := 20) (rs := [.tmp 4]) Tryz.func195 (by decide) rfl rfl rfl rfl ?_
  refine Wr.go ?_
  repeat' ((first | (have ee := True.intro; refine Wr.mk ?_) | ((first | refine br_go ?_ ?_ | refine pick_go ?_ ?_) <;> intro ee f <;> (try simp only [BB] at f) <;> (try simp only [numOk, verOk] at f)) | (have ee := True.intro; first | refine dr_go mixed (id := 4) [([], [2], []), ([], [2], []), ([1], [13], []), ([], [5], []), ([1, 2, 3], [14, 15], []), ([1, 2, 3, 4], [16], []), ([1, 2, 3, 4, 5], [17], []), ([0, 1, 2, 3, 4, 5, 6], [12, 18], []), ([0, 1, 2, 3, 4, 5, 6, 7], [19], [])] rfl rfl rfl ?_ | refine call_x (hp) rfl ⟨rfl⟩ ?_ | refine call_x (hn _) rfl ⟨rfl⟩ ?_)) <;> (try simp (maxSteps := 1000000) (disch := first | omega | (simp only [LN, numOk, verOk, rfP, rvP, rhP, frP, hg] <;> omega) | exact Ck.mk rfl) only [ee, VC, T, Nat.reduceMul, Nat.reduceAdd, Nat.reduceSub, Nat.reduceLT, Nat.reduceEqDiff, Nat.reduceLeDiff, Nat.reduceBEq, reduceCtorEq, Int.reduceToNat, ↓reduceIte, rfP, rvP, rhP, frP, hg]) <;> (try clear ee))
  · rw [if_pos f]
  · rw [if_neg (by omega)]
theorem impl_NodeAt (d : Dk) (n : ByteArray) (h : DkOk d) : Fn Tryz.prog 158 [dkP d, .str n] [] (.tup [ndP (nodeT d n).1, .bool (nodeT d n).2]) [] := by
  have hp := impl_nodeAt d n h
  have hr := nodeP_r d n
  unfold nodeT
  unfold dkP at *
  generalize nodeP d n = p at *
  have hg : (p.toNat < d.1.length) → (d.1.map ndP).getD p.toNat .junk = .agg [.int .i64 (d.1.getD p.toNat default).1, .str (d.1.getD p.toNat default).2.1, .int .i64 (d.1.getD p.toNat default).2.2] := fun h => by
    rw [List.getD_eq_getElem?_getD, List.getElem?_map, List.getElem?_eq_getElem h, List.getD_eq_getElem?_getD, List.getElem?_eq_getElem h]; rfl
  refine fn_x tok (n := 18) (rs := [.cell 4 104, .tmp 5]) Tryz.func158 (by decide) rfl rfl rfl rfl ?_
  refine Wr.go ?_
  repeat' ((first | (have ee := True.intro; refine Wr.mk ?_) | ((first | refine br_go ?_ ?_ | refine pick_go ?_ ?_) <;> intro ee f <;> (try simp only [BB] at f) <;> (try simp only [numOk, verOk] at f)) | (have ee := True.intro; first | refine call_x (hp) rfl ⟨rfl⟩ ?_)) <;> (try simp (maxSteps := 1000000) (disch := first | omega | (simp only [LN, numOk, verOk, rfP, rvP, rhP, frP, hg] <;> omega) | exact Ck.mk rfl) only [ee, VC, T, Nat.reduceMul, Nat.reduceAdd, Nat.reduceSub, Nat.reduceLT, Nat.reduceEqDiff, Nat.reduceLeDiff, Nat.reduceBEq, reduceCtorEq, Int.reduceToNat, ↓reduceIte, rfP, rvP, rhP, frP, hg]) <;> (try clear ee))
  · rw [if_pos f]; rfl
  · rw [if_neg (by omega)]; rfl
theorem spec_EntryAt (es : List Et) (n : ByteArray) (hl : es.length ≤ 16777216) : Fn Tryz.prog 100 [.far (es.map enP), .str n] [] (.int .i64 (entT es n)) [] := by
  have hst := findI_step (fun e : Et => decide (e.1 = n)) es
  have hen := findI_end (fun e : Et => decide (e.1 = n)) es
  refine fn_x tok (n := 24) (rs := [.tmp 4]) Tryz.func100 (by decide) rfl rfl rfl rfl ?_
  refine Wr.go ?_
  repeat' ((first | (have ee := True.intro; refine Wr.mk ?_) | ((first | refine br_go ?_ ?_ | refine pick_go ?_ ?_) <;> intro ee f <;> (try simp only [BB] at f) <;> (try simp only [numOk, verOk] at f))) <;> (try simp (maxSteps := 1000000) (disch := first | omega | (simp only [LN, numOk, verOk, rfP, rvP, rhP, frP] <;> omega) | exact Ck.mk rfl) only [ee, VC, T, Nat.reduceMul, Nat.reduceAdd, Nat.reduceSub, Nat.reduceLT, Nat.reduceEqDiff, Nat.reduceLeDiff, Nat.reduceBEq, reduceCtorEq, Int.reduceToNat, ↓reduceIte, rfP, rvP, rhP, frP]) <;> (try clear ee))
  refine lp_go (fun i : Nat => ⟨24, [(0, .far (es.map enP)), (1, .str n), (5, .int .i64 i)], []⟩) (fun i => i ≤ es.length ∧ placeI es n = findI (fun e => decide (e.1 = n)) (es.drop i) i) (fun i => es.length - i) 0 ?_ ⟨Nat.zero_le _, rfl⟩ ?_
  · (simp (disch := first | omega | (simp only [LN, numOk, verOk] <;> omega) | exact Ck.mk rfl) only [SB, EQ, Nat.reduceMul, Nat.reduceAdd, Nat.reduceSub, Nat.reduceLT, Nat.reduceEqDiff, Nat.reduceLeDiff, Nat.reduceBEq, reduceCtorEq, Int.reduceToNat, ↓reduceIte]; try omega)
  · rintro i ⟨h1, h2⟩ N hN
    have hg : i < es.length → (es.map enP).getD i .junk = .agg [.str (es.getD i default).1, .int .i64 (es.getD i default).2] := fun h => by
      rw [List.getD_eq_getElem?_getD, List.getElem?_map, List.getElem?_eq_getElem h, List.getD_eq_getElem?_getD, List.getElem?_eq_getElem h]; rfl
    have hst := hst i
    have hen := hen i
    refine Wr.go ?_
    repeat' ((first | (have ee := True.intro; refine Wr.mk ?_) | ((first | refine br_go ?_ ?_ | refine pick_go ?_ ?_) <;> intro ee f <;> (try simp only [BB] at f) <;> (try simp only [numOk, verOk] at f))) <;> (try simp (maxSteps := 1000000) (disch := first | omega | (simp only [LN, numOk, verOk, rfP, rvP, rhP, frP, hg] <;> omega) | exact Ck.mk rfl) only [ee, VC, T, Nat.reduceMul, Nat.reduceAdd, Nat.reduceSub, Nat.reduceLT, Nat.reduceEqDiff, Nat.reduceLeDiff, Nat.reduceBEq, reduceCtorEq, Int.reduceToNat, ↓reduceIte, rfP, rvP, rhP, frP, hg]) <;> (try clear ee))
    · unfold entT
      rw [h2, hst (by omega), if_pos (decide_eq_true f), if_neg (by omega), Int.toNat_natCast]
    · refine hN (i + 1) _ ⟨by omega, ?_⟩ (by omega) ?_
      · rw [h2, hst (by omega), if_neg (by rw [decide_eq_false f]; decide)]
      · (simp (disch := first | omega | (simp only [LN, numOk, verOk] <;> omega) | exact Ck.mk rfl) only [SB, EQ, Nat.reduceMul, Nat.reduceAdd, Nat.reduceSub, Nat.reduceLT, Nat.reduceEqDiff, Nat.reduceLeDiff, Nat.reduceBEq, reduceCtorEq, Int.reduceToNat, ↓reduceIte]; try omega)
    · unfold entT
      rw [h2, hen (by omega), if_pos (by decide)]
theorem spec_l06Has (es : List Et) (n : ByteArray) (hl : es.length ≤ 16777216) : Fn Tryz.prog 95 [.far (es.map enP), .str n] [] (.bool (decide (0 ≤ placeI es n))) [] := by
  have hst := findI_step (fun e : Et => decide (e.1 = n)) es
  have hen := findI_end (fun e : Et => decide (e.1 = n)) es
  refine fn_x tok (n := 19) (rs := [.tmp 4]) Tryz.func95 (by decide) rfl rfl rfl rfl ?_
  refine Wr.go ?_
  repeat' ((first | (have ee := True.intro; refine Wr.mk ?_) | ((first | refine br_go ?_ ?_ | refine pick_go ?_ ?_) <;> intro ee f <;> (try simp only [BB] at f) <;> (try simp only [numOk, verOk] at f))) <;> (try simp (maxSteps := 1000000) (disch := first | omega | (simp only [LN, numOk, verOk, rfP, rvP, rhP, frP] <;> omega) | exact Ck.mk rfl) only [ee, VC, T, Nat.reduceMul, Nat.reduceAdd, Nat.reduceSub, Nat.reduceLT, Nat.reduceEqDiff, Nat.reduceLeDiff, Nat.reduceBEq, reduceCtorEq, Int.reduceToNat, ↓reduceIte, rfP, rvP, rhP, frP]) <;> (try clear ee))
  refine lp_go (fun i : Nat => ⟨19, [(0, .far (es.map enP)), (1, .str n), (5, .int .i64 i)], []⟩) (fun i => i ≤ es.length ∧ placeI es n = findI (fun e => decide (e.1 = n)) (es.drop i) i) (fun i => es.length - i) 0 ?_ ⟨Nat.zero_le _, rfl⟩ ?_
  · (simp (disch := first | omega | (simp only [LN, numOk, verOk] <;> omega) | exact Ck.mk rfl) only [SB, EQ, Nat.reduceMul, Nat.reduceAdd, Nat.reduceSub, Nat.reduceLT, Nat.reduceEqDiff, Nat.reduceLeDiff, Nat.reduceBEq, reduceCtorEq, Int.reduceToNat, ↓reduceIte]; try omega)
  · rintro i ⟨h1, h2⟩ N hN
    have hg : i < es.length → (es.map enP).getD i .junk = .agg [.str (es.getD i default).1, .int .i64 (es.getD i default).2] := fun h => by
      rw [List.getD_eq_getElem?_getD, List.getElem?_map, List.getElem?_eq_getElem h, List.getD_eq_getElem?_getD, List.getElem?_eq_getElem h]; rfl
    have hst := hst i
    have hen := hen i
    refine Wr.go ?_
    repeat' ((first | (have ee := True.intro; refine Wr.mk ?_) | ((first | refine br_go ?_ ?_ | refine pick_go ?_ ?_) <;> intro ee f <;> (try simp only [BB] at f) <;> (try simp only [numOk, verOk] at f))) <;> (try simp (maxSteps := 1000000) (disch := first | omega | (simp only [LN, numOk, verOk, rfP, rvP, rhP, frP, hg] <;> omega) | exact Ck.mk rfl) only [ee, VC, T, Nat.reduceMul, Nat.reduceAdd, Nat.reduceSub, Nat.reduceLT, Nat.reduceEqDiff, Nat.reduceLeDiff, Nat.reduceBEq, reduceCtorEq, Int.reduceToNat, ↓reduceIte, rfP, rvP, rhP, frP, hg]) <;> (try clear ee))
    · rw [h2, hst (by omega), if_pos (decide_eq_true f), decide_eq_true (by omega)]
    · refine hN (i + 1) _ ⟨by omega, ?_⟩ (by omega) ?_
      · rw [h2, hst (by omega), if_neg (by rw [decide_eq_false f]; decide)]
      · (simp (disch := first | omega | (simp only [LN, numOk, verOk] <;> omega) | exact Ck.mk rfl) only [SB, EQ, Nat.reduceMul, Nat.reduceAdd, Nat.reduceSub, Nat.reduceLT, Nat.reduceEqDiff, Nat.reduceLeDiff, Nat.reduceBEq, reduceCtorEq, Int.reduceToNat, ↓reduceIte]; try omega)
    · rw [h2, hen (by omega)]; rfl
theorem spec_l05Node (d : Dk) (k : Int) (hl : d.1.length ≤ 1048576) : Fn Tryz.prog 99 [dkP d, .int .i64 k] [] (.int .i64 (nodeI d.1 k)) [] := by
  obtain ⟨ns, es, os, ss, r, x⟩ := d
  simp only at hl ⊢
  have hst := findI_step (fun e : Nd => decide (e.1 = k)) ns
  have hen := findI_end (fun e : Nd => decide (e.1 = k)) ns
  unfold dkP
  refine fn_x tok (n := 22) (rs := [.tmp 4]) Tryz.func99 (by decide) rfl rfl rfl rfl ?_
  refine Wr.go ?_
  repeat' ((first | (have ee := True.intro; refine Wr.mk ?_) | ((first | refine br_go ?_ ?_ | refine pick_go ?_ ?_) <;> intro ee f <;> (try simp only [BB] at f) <;> (try simp only [numOk, verOk] at f))) <;> (try simp (maxSteps := 1000000) (disch := first | omega | (simp only [LN, numOk, verOk, rfP, rvP, rhP, frP] <;> omega) | exact Ck.mk rfl) only [ee, VC, T, Nat.reduceMul, Nat.reduceAdd, Nat.reduceSub, Nat.reduceLT, Nat.reduceEqDiff, Nat.reduceLeDiff, Nat.reduceBEq, reduceCtorEq, Int.reduceToNat, ↓reduceIte, rfP, rvP, rhP, frP]) <;> (try clear ee))
  refine lp_go (fun i : Nat => ⟨22, [(1, .int .i64 k), (2, .ref 192 0), (5, .int .i64 i)], [(192, .box 32 [.far (ns.map ndP), .far (es.map enP), .far (os.map enP), .far (ss.map .str), .int .i64 r, .int .i64 x])]⟩) (fun i => i ≤ ns.length ∧ nodeI ns k = findI (fun e => decide (e.1 = k)) (ns.drop i) i) (fun i => ns.length - i) 0 ?_ ⟨Nat.zero_le _, rfl⟩ ?_
  · (simp (disch := first | omega | (simp only [LN, numOk, verOk] <;> omega) | exact Ck.mk rfl) only [SB, EQ, Nat.reduceMul, Nat.reduceAdd, Nat.reduceSub, Nat.reduceLT, Nat.reduceEqDiff, Nat.reduceLeDiff, Nat.reduceBEq, reduceCtorEq, Int.reduceToNat, ↓reduceIte]; try omega)
  · rintro i ⟨h1, h2⟩ N hN
    have hg : i < ns.length → (ns.map ndP).getD i .junk = .agg [.int .i64 (ns.getD i default).1, .str (ns.getD i default).2.1, .int .i64 (ns.getD i default).2.2] := fun h => by
      rw [List.getD_eq_getElem?_getD, List.getElem?_map, List.getElem?_eq_getElem h, List.getD_eq_getElem?_getD, List.getElem?_eq_getElem h]; rfl
    have hst := hst i
    have hen := hen i
    refine Wr.go ?_
    repeat' ((first | (have ee := True.intro; refine Wr.mk ?_) | ((first | refine br_go ?_ ?_ | refine pick_go ?_ ?_) <;> intro ee f <;> (try simp only [BB] at f) <;> (try simp only [numOk, verOk] at f))) <;> (try simp (maxSteps := 1000000) (disch := first | omega | (simp only [LN, numOk, verOk, rfP, rvP, rhP, frP, hg] <;> omega) | exact Ck.mk rfl) only [ee, VC, T, Nat.reduceMul, Nat.reduceAdd, Nat.reduceSub, Nat.reduceLT, Nat.reduceEqDiff, Nat.reduceLeDiff, Nat.reduceBEq, reduceCtorEq, Int.reduceToNat, ↓reduceIte, rfP, rvP, rhP, frP, hg]) <;> (try clear ee))
    · rw [h2, hst (by omega), if_pos (decide_eq_true f)]
    · refine hN (i + 1) _ ⟨by omega, ?_⟩ (by omega) ?_
      · rw [h2, hst (by omega), if_neg (by rw [decide_eq_false f]; decide)]
      · (simp (disch := first | omega | (simp only [LN, numOk, verOk] <;> omega) | exact Ck.mk rfl) only [SB, EQ, Nat.reduceMul, Nat.reduceAdd, Nat.reduceSub, Nat.reduceLT, Nat.reduceEqDiff, Nat.reduceLeDiff, Nat.reduceBEq, reduceCtorEq, Int.reduceToNat, ↓reduceIte]; try omega)
    · rw [h2, hen (by omega)]
theorem spec_NodeAt (d : Dk) (n : ByteArray) (h : DkOk d) : Fn Tryz.prog 179 [dkP d, .str n] [] (.tup [ndP (nodeT d n).1, .bool (nodeT d n).2]) [] := by
  have hE := spec_EntryAt d.2.1 n (Nat.le_trans h.es (by decide))
  have hH := spec_l06Has d.2.1 n (Nat.le_trans h.es (by decide))
  have hN := fun k => spec_l05Node d k h.ns
  have hr := placeI_r d.2.1 n
  have hk := nodeI_r d.1 (entT d.2.1 n)
  have hp : ¬ placeI d.2.1 n < 0 → nodeP d n = nodeI d.1 (entT d.2.1 n) := fun h => by unfold nodeP entT; rw [if_neg h, if_neg h]
  have hp0 : placeI d.2.1 n < 0 → nodeP d n = -1 := fun h => by unfold nodeP; rw [if_pos h]
  unfold nodeT
  unfold dkP at *
  generalize nodeP d n = p at *
  generalize placeI d.2.1 n = a at *
  generalize entT d.2.1 n = e at *
  have hN := hN e
  generalize nodeI d.1 e = z at *
  have hg : (z.toNat < d.1.length) → (d.1.map ndP).getD z.toNat .junk = .agg [.int .i64 (d.1.getD z.toNat default).1, .str (d.1.getD z.toNat default).2.1, .int .i64 (d.1.getD z.toNat default).2.2] := fun h => by
    rw [List.getD_eq_getElem?_getD, List.getElem?_map, List.getElem?_eq_getElem h, List.getD_eq_getElem?_getD, List.getElem?_eq_getElem h]; rfl
  refine fn_x tok (n := 28) (rs := [.cell 4 104, .tmp 5]) Tryz.func179 (by decide) rfl rfl rfl rfl ?_
  refine Wr.go ?_
  repeat' ((first | (have ee := True.intro; refine Wr.mk ?_) | ((first | refine br_go ?_ ?_ | refine pick_go ?_ ?_) <;> intro ee f <;> (try simp only [BB] at f) <;> (try simp only [numOk, verOk] at f)) | (have ee := True.intro; first | refine dr_go mixed (id := 1) [([], [2], []), ([], [2], []), ([1], [8], []), ([], [1], []), ([1, 2, 3], [9, 10], []), ([0, 1, 2, 3, 4], [7, 11], []), ([0, 1, 2, 3, 4, 5], [12], [])] rfl rfl rfl ?_ | refine call_x (hE) rfl ⟨rfl⟩ ?_ | refine call_x (hN) rfl ⟨rfl⟩ ?_ | refine call_x (hH) rfl ⟨rfl⟩ ?_)) <;> (try simp (maxSteps := 1000000) (disch := first | omega | (simp only [LN, numOk, verOk, rfP, rvP, rhP, frP, hg] <;> omega) | exact Ck.mk rfl) only [ee, VC, T, Nat.reduceMul, Nat.reduceAdd, Nat.reduceSub, Nat.reduceLT, Nat.reduceEqDiff, Nat.reduceLeDiff, Nat.reduceBEq, reduceCtorEq, Int.reduceToNat, ↓reduceIte, rfP, rvP, rhP, frP, hg]) <;> (try clear ee))
  · have hq : p < 0 := by
      by_cases ha : a < 0
      · rw [hp0 ha]; decide
      · rw [hp ha]; exact f
    rw [if_pos hq]; rfl
  · rw [hp (by omega), if_neg (by omega)]; rfl
  · rw [hp0 (by omega), if_pos (by decide)]; rfl
theorem impl_ReadFile (d : Dk) (n : ByteArray) (h : DkOk d) : Fn Tryz.prog 110 [dkP d, .str n] [] (.tup [.str (fileT d n).1, .bool (fileT d n).2]) [] := by
  have hp := impl_NodeAt d n h
  unfold fileT
  generalize nodeT d n = q at *
  obtain ⟨⟨a, b, c⟩, ok⟩ := q
  unfold dkP ndP at *
  refine fn_x tok (n := 17) (rs := [.tmp 4, .tmp 5]) Tryz.func110 (by decide) rfl rfl rfl rfl ?_
  refine Wr.go ?_
  repeat' ((first | (have ee := True.intro; refine Wr.mk ?_) | ((first | refine br_go ?_ ?_ | refine pick_go ?_ ?_) <;> intro ee f <;> (try simp only [BB] at f) <;> (try simp only [numOk, verOk] at f)) | (have ee := True.intro; first | refine call_x (hp) rfl ⟨rfl⟩ ?_)) <;> (try simp (maxSteps := 1000000) (disch := first | omega | (simp only [LN, numOk, verOk, rfP, rvP, rhP, frP] <;> omega) | exact Ck.mk rfl) only [ee, VC, T, Nat.reduceMul, Nat.reduceAdd, Nat.reduceSub, Nat.reduceLT, Nat.reduceEqDiff, Nat.reduceLeDiff, Nat.reduceBEq, reduceCtorEq, Int.reduceToNat, ↓reduceIte, rfP, rvP, rhP, frP]) <;> (try clear ee))
theorem spec_ReadFile (d : Dk) (n : ByteArray) (h : DkOk d) : Fn Tryz.prog 133 [dkP d, .str n] [] (.tup [.str (fileT d n).1, .bool (fileT d n).2]) [] := by
  have hp := spec_NodeAt d n h
  unfold fileT
  generalize nodeT d n = q at *
  obtain ⟨⟨a, b, c⟩, ok⟩ := q
  unfold dkP ndP at *
  refine fn_x tok (n := 17) (rs := [.tmp 4, .tmp 5]) Tryz.func133 (by decide) rfl rfl rfl rfl ?_
  refine Wr.go ?_
  repeat' ((first | (have ee := True.intro; refine Wr.mk ?_) | ((first | refine br_go ?_ ?_ | refine pick_go ?_ ?_) <;> intro ee f <;> (try simp only [BB] at f) <;> (try simp only [numOk, verOk] at f)) | (have ee := True.intro; first | refine call_x (hp) rfl ⟨rfl⟩ ?_)) <;> (try simp (maxSteps := 1000000) (disch := first | omega | (simp only [LN, numOk, verOk, rfP, rvP, rhP, frP] <;> omega) | exact Ck.mk rfl) only [ee, VC, T, Nat.reduceMul, Nat.reduceAdd, Nat.reduceSub, Nat.reduceLT, Nat.reduceEqDiff, Nat.reduceLeDiff, Nat.reduceBEq, reduceCtorEq, Int.reduceToNat, ↓reduceIte, rfP, rvP, rhP, frP]) <;> (try clear ee))
theorem impl_TextAt (d : Dk) (b : Int) (h : DkOk d) (hb : i64 b) : Fn Tryz.prog 51 [dkP d, .int .i64 b] [] (.str (textT d b)) [] := by
  have hp := impl_ReadFile d (segT b) h
  have hs := impl_SegmentName b hb
  unfold textT
  generalize fileT d (segT b) = q at *
  generalize segT b = s at *
  obtain ⟨t, ok⟩ := q
  unfold dkP at *
  refine fn_x tok (n := 15) (rs := [.tmp 4]) Tryz.func51 (by decide) rfl rfl rfl rfl ?_
  refine Wr.go ?_
  repeat' ((first | (have ee := True.intro; refine Wr.mk ?_) | ((first | refine br_go ?_ ?_ | refine pick_go ?_ ?_) <;> intro ee f <;> (try simp only [BB] at f) <;> (try simp only [numOk, verOk] at f)) | (have ee := True.intro; first | refine dr_go mixed (id := 1) [([], [2], []), ([], [1], []), ([1], [9], []), ([0, 1, 2], [8, 10], []), ([0, 1, 2, 3], [11], []), ([0, 1, 2, 3, 4], [7], []), ([0, 1, 2, 3, 4], [7], []), ([0, 1, 2, 3, 4, 5], [12], []), ([0, 1, 2, 3, 4, 5, 6, 7], [13], [])] rfl rfl rfl ?_ | refine call_x (hs) rfl ⟨rfl⟩ ?_ | refine call_x (hp) rfl ⟨rfl⟩ ?_)) <;> (try simp (maxSteps := 1000000) (disch := first | omega | (simp only [LN, numOk, verOk, rfP, rvP, rhP, frP] <;> omega) | exact Ck.mk rfl) only [ee, VC, T, Nat.reduceMul, Nat.reduceAdd, Nat.reduceSub, Nat.reduceLT, Nat.reduceEqDiff, Nat.reduceLeDiff, Nat.reduceBEq, reduceCtorEq, Int.reduceToNat, ↓reduceIte, rfP, rvP, rhP, frP]) <;> (try clear ee))
theorem spec_TextAt (d : Dk) (b : Int) (h : DkOk d) (hb : i64 b) : Fn Tryz.prog 79 [dkP d, .int .i64 b] [] (.str (textT d b)) [] := by
  have hp := spec_ReadFile d (segT b) h
  have hs := spec_SegmentName b hb
  unfold textT
  generalize fileT d (segT b) = q at *
  generalize segT b = s at *
  obtain ⟨t, ok⟩ := q
  unfold dkP at *
  refine fn_x tok (n := 15) (rs := [.tmp 4]) Tryz.func79 (by decide) rfl rfl rfl rfl ?_
  refine Wr.go ?_
  repeat' ((first | (have ee := True.intro; refine Wr.mk ?_) | ((first | refine br_go ?_ ?_ | refine pick_go ?_ ?_) <;> intro ee f <;> (try simp only [BB] at f) <;> (try simp only [numOk, verOk] at f)) | (have ee := True.intro; first | refine dr_go mixed (id := 1) [([], [2], []), ([], [1], []), ([1], [9], []), ([0, 1, 2], [8, 10], []), ([0, 1, 2, 3], [11], []), ([0, 1, 2, 3, 4], [7], []), ([0, 1, 2, 3, 4], [7], []), ([0, 1, 2, 3, 4, 5], [12], []), ([0, 1, 2, 3, 4, 5, 6, 7], [13], [])] rfl rfl rfl ?_ | refine call_x (hs) rfl ⟨rfl⟩ ?_ | refine call_x (hp) rfl ⟨rfl⟩ ?_)) <;> (try simp (maxSteps := 1000000) (disch := first | omega | (simp only [LN, numOk, verOk, rfP, rvP, rhP, frP] <;> omega) | exact Ck.mk rfl) only [ee, VC, T, Nat.reduceMul, Nat.reduceAdd, Nat.reduceSub, Nat.reduceLT, Nat.reduceEqDiff, Nat.reduceLeDiff, Nat.reduceBEq, reduceCtorEq, Int.reduceToNat, ↓reduceIte, rfP, rvP, rhP, frP]) <;> (try clear ee))
end Go.Pv

/- What functions of the program and of the reference do, in plain values. -/
namespace Go.Pv
open Go.Proofs Go.Mth
set_option linter.unusedSimpArgs false
set_option linter.unusedVariables false
set_option maxHeartbeats 4000000
set_option maxRecDepth 4000

/-! ### the reference's deeds on disks: names, decimals, steps -/
theorem spec_NameOk (b : ByteArray) (hb : b.size ≤ 9223372036854775807) : Fn Tryz.prog 94 [.str b] [] (.bool (decide (nmOk b))) [] := by
  have hlast : (∀ i : Nat, i < b.size → nmB (bt b i)) → nmOk b = (1 ≤ (b.size : Int) ∧ (b.size : Int) ≤ 20) := fun h => propext ⟨fun q => by have := q.2; omega, fun q => ⟨h, by omega⟩⟩
  have hno : ∀ i : Nat, i < b.size → ¬ nmB (bt b i) → nmOk b = False := fun i hi h => propext ⟨fun q => h (q.1 i hi), False.elim⟩
  refine fn_x tok (n := 34) (rs := [.tmp 2]) Tryz.func94 (by decide) rfl rfl rfl rfl ?_
  refine Wr.go ?_
  repeat' ((first | (have ee := True.intro; refine Wr.mk ?_) | ((first | refine br_go ?_ ?_ | refine pick_go ?_ ?_) <;> intro ee f <;> (try simp only [BB] at f) <;> (try simp only [numOk, verOk] at f))) <;> (try simp (maxSteps := 1000000) (disch := first | omega | (simp only [LN, numOk, verOk, rfP, rvP, rhP, frP] <;> omega) | exact Ck.mk rfl) only [ee, VC, T, Nat.reduceMul, Nat.reduceAdd, Nat.reduceSub, Nat.reduceLT, Nat.reduceEqDiff, Nat.reduceLeDiff, Nat.reduceBEq, reduceCtorEq, Int.reduceToNat, ↓reduceIte, rfP, rvP, rhP, frP]) <;> (try clear ee))
  refine lp_go (fun i : Nat => ⟨34, [(0, .str b), (3, .int .i64 i)], []⟩) (fun i => i ≤ b.size ∧ ∀ j : Nat, j < i → nmB (bt b j)) (fun i => b.size - i) 0 ?_ ⟨Nat.zero_le _, fun j h => by omega⟩ ?_
  · (simp (disch := first | omega | (simp only [LN, numOk, verOk] <;> omega) | exact Ck.mk rfl) only [SB, EQ, Nat.reduceMul, Nat.reduceAdd, Nat.reduceSub, Nat.reduceLT, Nat.reduceEqDiff, Nat.reduceLeDiff, Nat.reduceBEq, reduceCtorEq, Int.reduceToNat, ↓reduceIte]; try omega)
  · rintro i ⟨h1, h2⟩ N hN
    have hno := hno i
    have hr := bt_range b i
    have hnx : nmB (bt b i) → ∀ j : Nat, j < i + 1 → nmB (bt b j) := fun h j hj => by
      by_cases e : j = i
      · rw [e]; exact h
      · exact h2 j (by omega)
    have hB : nmB (bt b i) = ((97 ≤ bt b i ∧ bt b i ≤ 122) ∨ (48 ≤ bt b i ∧ bt b i ≤ 57) ∨ bt b i = 46 ∨ bt b i = 45) := rfl
    refine Wr.go ?_
    repeat' ((first | (have ee := True.intro; refine Wr.mk ?_) | ((first | refine br_go ?_ ?_ | refine pick_go ?_ ?_) <;> intro ee f <;> (try simp only [BB] at f) <;> (try simp only [numOk, verOk] at f)) | (have ee := True.intro; first | refine call_x (spec_l01In _ _ _) rfl ⟨rfl⟩ ?_)) <;> (try simp (maxSteps := 1000000) (disch := first | omega | (simp only [LN, numOk, verOk, rfP, rvP, rhP, frP] <;> omega) | exact Ck.mk rfl) only [ee, VC, T, Nat.reduceMul, Nat.reduceAdd, Nat.reduceSub, Nat.reduceLT, Nat.reduceEqDiff, Nat.reduceLeDiff, Nat.reduceBEq, reduceCtorEq, Int.reduceToNat, ↓reduceIte, rfP, rvP, rhP, frP]) <;> (try clear ee))
    all_goals first
      | (refine hN (i + 1) _ ⟨by omega, hnx (by rw [hB]; omega)⟩ (by omega) ?_
         (simp (disch := first | omega | (simp only [LN, numOk, verOk] <;> omega) | exact Ck.mk rfl) only [SB, EQ, Nat.reduceMul, Nat.reduceAdd, Nat.reduceSub, Nat.reduceLT, Nat.reduceEqDiff, Nat.reduceLeDiff, Nat.reduceBEq, reduceCtorEq, Int.reduceToNat, ↓reduceIte]; try omega))
      | (have e := hno (by omega) (by rw [hB]; omega)
         simp only [e, decide_false])
      | (have e := hlast (by
           obtain rfl : i = b.size := by omega
           exact h2)
         simp only [e])
theorem spec_l01Figure (d : Int) (hd : 0 ≤ d ∧ d ≤ 9) : Fn Tryz.prog 147 [.int .i64 d] [] (.int .u8 (48 + d)) [] := by
  refine fn_x tok (n := 12) (rs := [.tmp 2]) Tryz.func147 (by decide) rfl rfl rfl rfl ?_
  refine Wr.go ?_
  repeat' ((first | (have ee := True.intro; refine Wr.mk ?_) | ((first | refine br_go ?_ ?_ | refine pick_go ?_ ?_) <;> intro ee f <;> (try simp only [BB] at f) <;> (try simp only [numOk, verOk] at f))) <;> (try simp (maxSteps := 1000000) (disch := first | omega | (simp only [LN, numOk, verOk, rfP, rvP, rhP, frP] <;> omega) | exact Ck.mk rfl) only [ee, VC, T, Nat.reduceMul, Nat.reduceAdd, Nat.reduceSub, Nat.reduceLT, Nat.reduceEqDiff, Nat.reduceLeDiff, Nat.reduceBEq, reduceCtorEq, Int.reduceToNat, ↓reduceIte, rfP, rvP, rhP, frP]) <;> (try clear ee))
  rw [Int.emod_eq_of_lt (by omega) (by omega)]
theorem decL_zero : ∀ k : Nat, decL k 0 = []
  | 0 => rfl
  | k + 1 => by unfold decL; rw [if_pos rfl]
theorem spec_Decimal (n : Int) (hn : 0 ≤ n ∧ n ≤ 100000000000) : Fn Tryz.prog 97 [.int .i64 n] [] (.str (decT n)) [] := by
  have h0 : n = 0 → decT n = ⟨#[48]⟩ := fun h => by subst h; rfl
  have h1 : ¬ n = 0 → decT n = strOf (decL 20 n) := fun h => if_neg h
  generalize hq : decT n = q at *
  refine fn_x tok (n := 30) (rs := [.tmp 2]) Tryz.func97 (by decide) rfl rfl rfl rfl ?_
  refine Wr.go ?_
  repeat' ((first | (have ee := True.intro; refine Wr.mk ?_) | ((first | refine br_go ?_ ?_ | refine pick_go ?_ ?_) <;> intro ee f <;> (try simp only [BB] at f) <;> (try simp only [numOk, verOk] at f))) <;> (try simp (maxSteps := 1000000) (disch := first | omega | (simp only [LN, numOk, verOk, rfP, rvP, rhP, frP] <;> omega) | exact Ck.mk rfl) only [ee, VC, T, Nat.reduceMul, Nat.reduceAdd, Nat.reduceSub, Nat.reduceLT, Nat.reduceEqDiff, Nat.reduceLeDiff, Nat.reduceBEq, reduceCtorEq, Int.reduceToNat, ↓reduceIte, rfP, rvP, rhP, frP]) <;> (try clear ee))
  · rw [h0 f]
  · refine lp_go (fun x : Int × ByteArray × Nat => ⟨30, [(0, .int .i64 x.1), (3, .bool false), (4, .str x.2.1)], []⟩) (fun x => 0 ≤ x.1 ∧ x.1 ≤ 100000000000 ∧ x.2.2 ≤ 20 ∧ x.2.1.size = 20 - x.2.2 ∧ x.1 < 10 ^ x.2.2 ∧ bytesOf q = decL x.2.2 x.1 ++ bytesOf x.2.1) (fun x => x.2.2) (n, ⟨#[]⟩, 20) ?_ ⟨hn.1, hn.2, Nat.le_refl 20, rfl, by
      have : (10 : Int) ^ 20 = 100000000000000000000 := rfl
      simp only; omega, ?_⟩ ?_
    · (simp (disch := first | omega | (simp only [LN, numOk, verOk] <;> omega) | exact Ck.mk rfl) only [SB, EQ, Nat.reduceMul, Nat.reduceAdd, Nat.reduceSub, Nat.reduceLT, Nat.reduceEqDiff, Nat.reduceLeDiff, Nat.reduceBEq, reduceCtorEq, Int.reduceToNat, ↓reduceIte]; try omega)
      exact decide_eq_false (by omega)
    · simp only
      rw [h1 f, bytesOf_strOf _ (fun x hx => by have := decL_range 20 n x hx; omega)]
      simp [bytesOf]
    · rintro ⟨m, s, k⟩ ⟨q1, q2, q3, q4, q5, q6⟩ N hN
      simp only at q1 q2 q3 q4 q5 q6 hN ⊢
      have hk : ¬ m = 0 → 0 < k := fun h => by
        cases k with
        | zero => simp at q5; omega
        | succ k => omega
      have hmod : m.tmod 10 = m % 10 := Int.tmod_eq_emod_of_nonneg q1
      have hdiv : m.tdiv 10 = m / 10 := Int.tdiv_eq_ediv_of_nonneg q1
      have hst : ¬ m = 0 → m / 10 < 10 ^ (k - 1) ∧ bytesOf q = decL (k - 1) (m / 10) ++ bytesOf (strOf [48 + m % 10] ++ s) := fun h => by
        obtain ⟨j, rfl⟩ : ∃ j, k = j + 1 := ⟨k - 1, by have := hk h; omega⟩
        rw [Nat.add_sub_cancel]
        rw [Int.pow_succ] at q5
        refine ⟨by omega, ?_⟩
        rw [q6, bytesOf_append, bytesOf_strOf _ (fun x hx => by rw [List.mem_singleton] at hx; omega)]
        conv => lhs; unfold decL
        rw [if_neg h, List.append_assoc]
      have hs1 : strP [PV.int .u8 (48 + m % 10)] = strOf [48 + m % 10] := rfl
      have hs2 : (strOf [48 + m % 10]).size = 1 := rfl
      refine Wr.go ?_
      repeat' ((first | (have ee := True.intro; refine Wr.mk ?_) | ((first | refine br_go ?_ ?_ | refine pick_go ?_ ?_) <;> intro ee f <;> (try simp only [BB] at f) <;> (try simp only [numOk, verOk] at f)) | (have ee := True.intro; first | refine call_x (spec_l01Figure _ (by omega)) rfl ⟨rfl⟩ ?_)) <;> (try simp (maxSteps := 1000000) (disch := first | omega | (simp only [LN, numOk, verOk, rfP, rvP, rhP, frP, hmod, hdiv, hs1, hs2] <;> omega) | exact Ck.mk rfl) only [ee, VC, T, Nat.reduceMul, Nat.reduceAdd, Nat.reduceSub, Nat.reduceLT, Nat.reduceEqDiff, Nat.reduceLeDiff, Nat.reduceBEq, reduceCtorEq, Int.reduceToNat, ↓reduceIte, rfP, rvP, rhP, frP, hmod, hdiv, hs1, hs2]) <;> (try clear ee))
      · subst f
        rw [decL_zero, List.nil_append] at q6
        rw [bytesOf_inj q6]
      · refine ⟨fun z hz => ?_, ?_⟩
        · rw [List.mem_singleton] at hz
          subst hz
          show 0 ≤ 48 + m % 10 ∧ 48 + m % 10 < 256
          omega
        · obtain ⟨p1, p2⟩ := hst f
          have hk := hk f
          refine hN (m / 10, strOf [48 + m % 10] ++ s, k - 1) _ ⟨by simp only; omega, by simp only; omega, by simp only; omega, by simp only; rw [ByteArray.size_append, hs2]; omega, p1, p2⟩ (by simp only; omega) ?_
          (simp (disch := first | omega | (simp only [LN, numOk, verOk] <;> omega) | exact Ck.mk rfl) only [SB, EQ, Nat.reduceMul, Nat.reduceAdd, Nat.reduceSub, Nat.reduceLT, Nat.reduceEqDiff, Nat.reduceLeDiff, Nat.reduceBEq, reduceCtorEq, Int.reduceToNat, ↓reduceIte]; try omega)
theorem pow10_le (i : Nat) (h : i ≤ 10) : (10 : Int) ^ i ≤ 10000000000 := by
  have := pow_mono 10 (by decide) h
  simpa using this
theorem rdec_no (t : ByteArray) (h : decN 0 (bytesOf t) = none) : rdec t = (0, false) := by unfold rdec; rw [h]
theorem rdec_so (t : ByteArray) (n : Int) (h : decN 0 (bytesOf t) = some n) : rdec t = if t.size ≤ 10 ∧ n ≤ 1000000000 ∧ decT n = t then (n, true) else (0, false) := by unfold rdec; rw [h]
theorem rdec_big (t : ByteArray) (h : 10 < t.size) : rdec t = (0, false) := by
  cases hd : decN 0 (bytesOf t) with
  | none => exact rdec_no t hd
  | some n => rw [rdec_so t n hd, if_neg (by omega)]
theorem spec_ReadDecimal (t : ByteArray) (ht : t.size ≤ 9223372036854775807) : Fn Tryz.prog 204 [.str t] [] (.tup [.int .i64 (rdec t).1, .bool (rdec t).2]) [] := by
  have hno := rdec_no t
  have hso := rdec_so t
  have hbig := rdec_big t
  have hst := fun n => decN_step n (bytesOf t)
  have hbt : ∀ i : Nat, (bytesOf t).getD i default = bt t i := fun i => rd_bytesOf t i
  generalize rdec t = q at *
  obtain ⟨v, ok⟩ := q
  refine fn_x tok (n := 42) (rs := [.tmp 2, .tmp 3]) Tryz.func204 (by decide) rfl rfl rfl rfl ?_
  refine Wr.go ?_
  repeat' ((first | (have ee := True.intro; refine Wr.mk ?_) | ((first | refine br_go ?_ ?_ | refine pick_go ?_ ?_) <;> intro ee f <;> (try simp only [BB] at f) <;> (try simp only [numOk, verOk] at f))) <;> (try simp (maxSteps := 1000000) (disch := first | omega | (simp only [LN, numOk, verOk, rfP, rvP, rhP, frP] <;> omega) | exact Ck.mk rfl) only [ee, VC, T, Nat.reduceMul, Nat.reduceAdd, Nat.reduceSub, Nat.reduceLT, Nat.reduceEqDiff, Nat.reduceLeDiff, Nat.reduceBEq, reduceCtorEq, Int.reduceToNat, ↓reduceIte, rfP, rvP, rhP, frP]) <;> (try clear ee))
  · cases hbig (by omega); rfl
  · refine lp_go (fun x : Int × Nat => ⟨42, [(0, .str t), (4, .int .i64 x.1), (5, .int .i64 x.2)], []⟩) (fun x => x.2 ≤ t.size ∧ (0 ≤ x.1 ∧ x.1 < 10 ^ x.2) ∧ decN 0 (bytesOf t) = decN x.1 ((bytesOf t).drop x.2)) (fun x => t.size - x.2) (0, 0) ?_ ⟨Nat.zero_le _, ⟨by decide, by decide⟩, rfl⟩ ?_
    · (simp (disch := first | omega | (simp only [LN, numOk, verOk] <;> omega) | exact Ck.mk rfl) only [SB, EQ, Nat.reduceMul, Nat.reduceAdd, Nat.reduceSub, Nat.reduceLT, Nat.reduceEqDiff, Nat.reduceLeDiff, Nat.reduceBEq, reduceCtorEq, Int.reduceToNat, ↓reduceIte]; try omega)
    · rintro ⟨m, i⟩ ⟨h1, ⟨h2, h3⟩, h4⟩ N hN
      simp only at h1 h2 h3 h4 hN
      have hp := pow10_le i (by omega)
      have hps : (10 : Int) ^ (i + 1) = 10 ^ i * 10 := Int.pow_succ 10 i
      have hst := hst m i
      rw [bytesOf_length, hbt] at hst
      have hr := bt_range t i
      have hlt : ∀ d : Int, 0 ≤ d → d < 10 → 0 ≤ 10 * m + d ∧ 10 * m + d < 10 ^ (i + 1) := fun d q0 q1 => by
        rw [hps]
        generalize (10 : Int) ^ i = p at *
        omega
      by_cases hi : i < t.size
      · have hst := hst hi
        generalize hc : bt t i = c at *
        refine Wr.go ?_
        repeat' ((first | (have ee := True.intro; refine Wr.mk ?_) | ((first | refine br_go ?_ ?_ | refine pick_go ?_ ?_) <;> intro ee f <;> (try simp only [BB] at f) <;> (try simp only [numOk, verOk] at f))) <;> (try simp (maxSteps := 1000000) (disch := first | omega | (simp only [LN, numOk, verOk, rfP, rvP, rhP, frP, hc] <;> omega) | exact Ck.mk rfl) only [ee, VC, T, Nat.reduceMul, Nat.reduceAdd, Nat.reduceSub, Nat.reduceLT, Nat.reduceEqDiff, Nat.reduceLeDiff, Nat.reduceBEq, reduceCtorEq, Int.reduceToNat, ↓reduceIte, rfP, rvP, rhP, frP, hc]) <;> (try clear ee))
        · rw [if_neg (by omega)] at hst
          cases hno (h4.trans hst); rfl
        · rw [if_neg (by omega)] at hst
          cases hno (h4.trans hst); rfl
        · rw [if_pos ⟨by omega, by omega⟩] at hst
          refine hN (10 * m + (c - 48), i + 1) _ ⟨by simp only; omega, hlt _ (by omega) (by omega), h4.trans hst⟩ (by simp only; omega) ?_
          (simp (disch := first | omega | (simp only [LN, numOk, verOk] <;> omega) | exact Ck.mk rfl) only [SB, EQ, Nat.reduceMul, Nat.reduceAdd, Nat.reduceSub, Nat.reduceLT, Nat.reduceEqDiff, Nat.reduceLeDiff, Nat.reduceBEq, reduceCtorEq, Int.reduceToNat, ↓reduceIte]; try omega)
      · obtain rfl : i = t.size := by omega
        have h5 : decN 0 (bytesOf t) = some m := by rw [h4, List.drop_eq_nil_of_le (by rw [bytesOf_length]; exact Nat.le_refl _)]; rfl
        have hso := hso m h5
        have hD := spec_Decimal m (by omega)
        generalize decT m = dm at *
        refine Wr.go ?_
        repeat' ((first | (have ee := True.intro; refine Wr.mk ?_) | ((first | refine br_go ?_ ?_ | refine pick_go ?_ ?_) <;> intro ee f <;> (try simp only [BB] at f) <;> (try simp only [numOk, verOk] at f)) | (have ee := True.intro; first | refine call_x (hD) rfl ⟨rfl⟩ ?_)) <;> (try simp (maxSteps := 1000000) (disch := first | omega | (simp only [LN, numOk, verOk, rfP, rvP, rhP, frP] <;> omega) | exact Ck.mk rfl) only [ee, VC, T, Nat.reduceMul, Nat.reduceAdd, Nat.reduceSub, Nat.reduceLT, Nat.reduceEqDiff, Nat.reduceLeDiff, Nat.reduceBEq, reduceCtorEq, Int.reduceToNat, ↓reduceIte, rfP, rvP, rhP, frP]) <;> (try clear ee))
        · rw [if_neg (by omega)] at hso
          cases hso; rfl
        · rename_i f0
          rw [if_pos ⟨by omega, f0, f⟩] at hso
          cases hso; rfl
        · rw [if_neg (fun h => f h.2.2)] at hso
          cases hso; rfl
theorem spec_Brought (n a b : Int) : Fn Tryz.prog 163 [.int .i64 n, .int .i64 a, .int .i64 b] [] (.int .i64 (if b < a ∨ n < a then a else if b < n then b else n)) [] := by
  refine fn_x tok (n := 21) (rs := [.tmp 6]) Tryz.func163 (by decide) rfl rfl rfl rfl ?_
  refine Wr.go ?_
  repeat' ((first | (have ee := True.intro; refine Wr.mk ?_) | ((first | refine br_go ?_ ?_ | refine pick_go ?_ ?_) <;> intro ee f <;> (try simp only [BB] at f) <;> (try simp only [numOk, verOk] at f))) <;> (try simp (maxSteps := 1000000) (disch := first | omega | (simp only [LN, numOk, verOk, rfP, rvP, rhP, frP] <;> omega) | exact Ck.mk rfl) only [ee, VC, T, Nat.reduceMul, Nat.reduceAdd, Nat.reduceSub, Nat.reduceLT, Nat.reduceEqDiff, Nat.reduceLeDiff, Nat.reduceBEq, reduceCtorEq, Int.reduceToNat, ↓reduceIte, rfP, rvP, rhP, frP]) <;> (try clear ee))
  all_goals first
    | rw [if_pos (by omega)]
    | rw [if_neg (by omega), if_pos (by omega)]
    | rw [if_neg (by omega), if_neg (by omega)]
theorem spec_l06Same (xs ys : List Et) (hx : xs.length ≤ 4611686018427387904) : Fn Tryz.prog 119 [.far (xs.map enP), .far (ys.map enP)] [] (.bool (decide (xs = ys))) [] := by
  refine fn_x tok (n := 26) (rs := [.tmp 4]) Tryz.func119 (by decide) rfl rfl rfl rfl ?_
  refine Wr.go ?_
  repeat' ((first | (have ee := True.intro; refine Wr.mk ?_) | ((first | refine br_go ?_ ?_ | refine pick_go ?_ ?_) <;> intro ee f <;> (try simp only [BB] at f) <;> (try simp only [numOk, verOk] at f))) <;> (try simp (maxSteps := 1000000) (disch := first | omega | (simp only [LN, numOk, verOk, rfP, rvP, rhP, frP] <;> omega) | exact Ck.mk rfl) only [ee, VC, T, Nat.reduceMul, Nat.reduceAdd, Nat.reduceSub, Nat.reduceLT, Nat.reduceEqDiff, Nat.reduceLeDiff, Nat.reduceBEq, reduceCtorEq, Int.reduceToNat, ↓reduceIte, rfP, rvP, rhP, frP]) <;> (try clear ee))
  · have hl : xs.length = ys.length := by omega
    refine lp_go (fun i : Nat => ⟨26, [(0, .far (xs.map enP)), (1, .far (ys.map enP)), (5, .int .i64 i)], []⟩) (fun i => i ≤ xs.length ∧ xs.take i = ys.take i) (fun i => xs.length - i) 0 ?_ ⟨Nat.zero_le _, rfl⟩ ?_
    · (simp (disch := first | omega | (simp only [LN, numOk, verOk] <;> omega) | exact Ck.mk rfl) only [SB, EQ, Nat.reduceMul, Nat.reduceAdd, Nat.reduceSub, Nat.reduceLT, Nat.reduceEqDiff, Nat.reduceLeDiff, Nat.reduceBEq, reduceCtorEq, Int.reduceToNat, ↓reduceIte]; try omega)
    · rintro i ⟨h1, h2⟩ N hN
      have hg : ∀ zs : List Et, i < zs.length → (zs.map enP).getD i .junk = .agg [.str (zs.getD i default).1, .int .i64 (zs.getD i default).2] := fun zs h => by
        rw [List.getD_eq_getElem?_getD, List.getElem?_map, List.getElem?_eq_getElem h, List.getD_eq_getElem?_getD, List.getElem?_eq_getElem h]; rfl
      have heq : (xs.getD i default).1 = (ys.getD i default).1 → (xs.getD i default).2 = (ys.getD i default).2 → xs.getD i default = ys.getD i default := fun h1 h2 => Prod.ext h1 h2
      refine Wr.go ?_
      repeat' ((first | (have ee := True.intro; refine Wr.mk ?_) | ((first | refine br_go ?_ ?_ | refine pick_go ?_ ?_) <;> intro ee f <;> (try simp only [BB] at f) <;> (try simp only [numOk, verOk] at f)) | (have ee := True.intro; first | refine dr_go mixed (id := 6) [([], [0], []), ([], [5], []), ([0, 1], [17, 18], []), ([0, 1, 2], [19], []), ([], [1], []), ([], [5], []), ([4, 5], [21, 22], []), ([4, 5, 6], [23], []), ([0, 1, 2, 3, 4, 5, 6, 7], [20, 24], [])] rfl rfl rfl ?_)) <;> (try simp (maxSteps := 1000000) (disch := first | omega | (simp only [LN, numOk, verOk, rfP, rvP, rhP, frP, hg] <;> omega) | exact Ck.mk rfl) only [ee, VC, T, Nat.reduceMul, Nat.reduceAdd, Nat.reduceSub, Nat.reduceLT, Nat.reduceEqDiff, Nat.reduceLeDiff, Nat.reduceBEq, reduceCtorEq, Int.reduceToNat, ↓reduceIte, rfP, rvP, rhP, frP, hg]) <;> (try clear ee))
      · refine hN (i + 1) _ ⟨by omega, eq_stp xs ys i hl (by omega) h2 (heq f.1 f.2)⟩ (by omega) ?_
        (simp (disch := first | omega | (simp only [LN, numOk, verOk] <;> omega) | exact Ck.mk rfl) only [SB, EQ, Nat.reduceMul, Nat.reduceAdd, Nat.reduceSub, Nat.reduceLT, Nat.reduceEqDiff, Nat.reduceLeDiff, Nat.reduceBEq, reduceCtorEq, Int.reduceToNat, ↓reduceIte]; try omega)
      · rw [decide_eq_false fun h => by subst h; rcases f with f | f <;> exact f rfl]
      · rw [List.take_of_length_le (by omega), List.take_of_length_le (by omega)] at h2
        rw [decide_eq_true h2]
  · rw [decide_eq_false fun h => f (by rw [h])]
theorem spec_UsedOn (d : Dk) (h : DkOk d) : Fn Tryz.prog 101 [dkP d] [] (.int .i64 (usedT d)) [] := by
  have hns := h.ns
  have hnt := h.nt
  unfold usedT
  obtain ⟨ns, es, os, ss, r, x⟩ := d
  simp only at *
  unfold dkP
  refine fn_x tok (n := 22) (rs := [.tmp 2]) Tryz.func101 (by decide) rfl rfl rfl rfl ?_
  refine Wr.go ?_
  repeat' ((first | (have ee := True.intro; refine Wr.mk ?_) | ((first | refine br_go ?_ ?_ | refine pick_go ?_ ?_) <;> intro ee f <;> (try simp only [BB] at f) <;> (try simp only [numOk, verOk] at f))) <;> (try simp (maxSteps := 1000000) (disch := first | omega | (simp only [LN, numOk, verOk, rfP, rvP, rhP, frP] <;> omega) | exact Ck.mk rfl) only [ee, VC, T, Nat.reduceMul, Nat.reduceAdd, Nat.reduceSub, Nat.reduceLT, Nat.reduceEqDiff, Nat.reduceLeDiff, Nat.reduceBEq, reduceCtorEq, Int.reduceToNat, ↓reduceIte, rfP, rvP, rhP, frP]) <;> (try clear ee))
  refine lp_go (fun i : Nat => ⟨22, [(1, .ref 128 0), (3, .int .i64 ((ns.take i).map fun x => (x.2.1.size : Int)).sum), (4, .int .i64 i)], [(128, .box 32 [.far (ns.map ndP), .far (es.map enP), .far (os.map enP), .far (ss.map .str), .int .i64 r, .int .i64 x])]⟩) (fun i => i ≤ ns.length ∧ 0 ≤ ((ns.take i).map fun x => (x.2.1.size : Int)).sum ∧ ((ns.take i).map fun x => (x.2.1.size : Int)).sum ≤ 1048576 * i) (fun i => ns.length - i) 0 ?_ ⟨Nat.zero_le _, by simp, by simp⟩ ?_
  · (simp (disch := first | omega | (simp only [LN, numOk, verOk] <;> omega) | exact Ck.mk rfl) only [SB, EQ, Nat.reduceMul, Nat.reduceAdd, Nat.reduceSub, Nat.reduceLT, Nat.reduceEqDiff, Nat.reduceLeDiff, Nat.reduceBEq, reduceCtorEq, Int.reduceToNat, ↓reduceIte]; try omega)
    rfl
  · rintro i ⟨hi, hs1, hs2⟩ N hN
    have hg : i < ns.length → (ns.map ndP).getD i .junk = .agg [.int .i64 (ns.getD i default).1, .str (ns.getD i default).2.1, .int .i64 (ns.getD i default).2.2] := fun h => by
      rw [List.getD_eq_getElem?_getD, List.getElem?_map, List.getElem?_eq_getElem h, List.getD_eq_getElem?_getD, List.getElem?_eq_getElem h]; rfl
    have hsn : i < ns.length → ((ns.take (i + 1)).map fun x => (x.2.1.size : Int)).sum = ((ns.take i).map fun x => (x.2.1.size : Int)).sum + (ns.getD i default).2.1.size := fun h => by
      rw [take_snoc default ns i h, List.map_append, List.sum_append]
      simp [rdOf]
    have hz : i < ns.length → (ns.getD i default).2.1.size ≤ 1048576 := fun h => by
      rw [List.getD_eq_getElem?_getD, List.getElem?_eq_getElem h]; exact hnt _ (List.getElem_mem h)
    generalize hu : ((ns.take i).map fun x => (x.2.1.size : Int)).sum = u at *
    by_cases h : i < ns.length
    · have hsn := hsn h
      have hz := hz h
      refine Wr.go ?_
      repeat' ((first | (have ee := True.intro; refine Wr.mk ?_) | ((first | refine br_go ?_ ?_ | refine pick_go ?_ ?_) <;> intro ee f <;> (try simp only [BB] at f) <;> (try simp only [numOk, verOk] at f))) <;> (try simp (maxSteps := 1000000) (disch := first | omega | (simp only [LN, numOk, verOk, rfP, rvP, rhP, frP, hg] <;> omega) | exact Ck.mk rfl) only [ee, VC, T, Nat.reduceMul, Nat.reduceAdd, Nat.reduceSub, Nat.reduceLT, Nat.reduceEqDiff, Nat.reduceLeDiff, Nat.reduceBEq, reduceCtorEq, Int.reduceToNat, ↓reduceIte, rfP, rvP, rhP, frP, hg]) <;> (try clear ee))
      refine hN (i + 1) _ ⟨by omega, by rw [hsn]; omega, by rw [hsn]; omega⟩ (by omega) ?_
      rw [hsn]
      (simp (disch := first | omega | (simp only [LN, numOk, verOk] <;> omega) | exact Ck.mk rfl) only [SB, EQ, Nat.reduceMul, Nat.reduceAdd, Nat.reduceSub, Nat.reduceLT, Nat.reduceEqDiff, Nat.reduceLeDiff, Nat.reduceBEq, reduceCtorEq, Int.reduceToNat, ↓reduceIte]; try omega)
    · obtain rfl : i = ns.length := by omega
      refine Wr.go ?_
      repeat' ((first | (have ee := True.intro; refine Wr.mk ?_) | ((first | refine br_go ?_ ?_ | refine pick_go ?_ ?_) <;> intro ee f <;> (try simp only [BB] at f) <;> (try simp only [numOk, verOk] at f))) <;> (try simp (maxSteps := 1000000) (disch := first | omega | (simp only [LN, numOk, verOk, rfP, rvP, rhP, frP] <;> omega) | exact Ck.mk rfl) only [ee, VC, T, Nat.reduceMul, Nat.reduceAdd, Nat.reduceSub, Nat.reduceLT, Nat.reduceEqDiff, Nat.reduceLeDiff, Nat.reduceBEq, reduceCtorEq, Int.reduceToNat, ↓reduceIte, rfP, rvP, rhP, frP]) <;> (try clear ee))
      rw [← hu, List.take_length]
end Go.Pv

/- What functions of the program and of the reference do, in plain values. -/
namespace Go.Pv
open Go.Proofs Go.Mth
set_option linter.unusedSimpArgs false
set_option linter.unusedVariables false
set_option maxHeartbeats 4000000
set_option maxRecDepth 4000

/-! ### the reference's deeds on disks: entries, steps -/
theorem spec_l06Drop_R (L : List Et) (n : ByteArray) (hl : L.length ≤ 16777216) : FnE Tryz.prog 165 [.far (L.map enP), .str n] [] (fun r m => r = .row 64 (dropT L n).length ∧ m = [(64, .row ⟨2, 0⟩ ((dropT L n).map enP))]) := by
  unfold dropT
  refine fn_e tok (n := 29) (rs := [.tmp 4]) Tryz.func165 (by decide) rfl rfl rfl rfl (low_of rfl) ?_
  refine Wr.go ?_
  repeat' ((first | (have ee := True.intro; refine Wr.mk ?_) | ((first | refine br_go ?_ ?_ | refine pick_go ?_ ?_) <;> intro ee f <;> (try simp only [BB] at f) <;> (try simp only [numOk, verOk] at f))) <;> (try simp (maxSteps := 1000000) (disch := first | omega | (simp only [LN, numOk, verOk, rfP, rvP, rhP, frP] <;> omega) | exact Ck.mk rfl) only [ee, VC, T, Nat.reduceMul, Nat.reduceAdd, Nat.reduceSub, Nat.reduceLT, Nat.reduceEqDiff, Nat.reduceLeDiff, Nat.reduceBEq, reduceCtorEq, Int.reduceToNat, ↓reduceIte, rfP, rvP, rhP, frP]) <;> (try clear ee))
  refine lp_go (fun i : Nat => ⟨29, [(0, .far (L.map enP)), (1, .str n), (5, .row 512 ((L.take i).filter fun e => decide (e.1 ≠ n)).length), (6, .int .i64 i)], [(512, .row ⟨2, 0⟩ (((L.take i).filter fun e => decide (e.1 ≠ n)).map enP))]⟩) (fun i => i ≤ L.length) (fun i => L.length - i) 0 ?_ (Nat.zero_le _) ?_
  · (simp (disch := first | omega | (simp only [LN, numOk, verOk] <;> omega) | exact Ck.mk rfl) only [SB, EQ, Nat.reduceMul, Nat.reduceAdd, Nat.reduceSub, Nat.reduceLT, Nat.reduceEqDiff, Nat.reduceLeDiff, Nat.reduceBEq, reduceCtorEq, Int.reduceToNat, ↓reduceIte]; try omega)
    exact ⟨rfl, rfl⟩
  · intro i hi N hN
    have hsn := flt_snoc (fun e : Et => decide (e.1 ≠ n)) L i
    have hfl : ((L.take i).filter fun e => decide (e.1 ≠ n)).length ≤ i := by
      have := List.length_filter_le (fun e : Et => decide (e.1 ≠ n)) (L.take i)
      rw [List.length_take] at this
      omega
    have hg : i < L.length → (L.map enP).getD i .junk = .agg [.str (L.getD i default).1, .int .i64 (L.getD i default).2] := fun h => by
      rw [List.getD_eq_getElem?_getD, List.getElem?_map, List.getElem?_eq_getElem h, List.getD_eq_getElem?_getD, List.getElem?_eq_getElem h]; rfl
    generalize hM : (L.take i).filter (fun e => decide (e.1 ≠ n)) = M at *
    by_cases h : i < L.length
    · have hsn := hsn h
      have hg := hg h
      generalize L.getD i default = p at *
      obtain ⟨b, c⟩ := p
      simp only at *
      have hmap : (M ++ [(b, c)]).map enP = M.map enP ++ [.agg [.str b, .int .i64 c]] := by rw [List.map_append]; rfl
      refine Wr.go ?_
      repeat' ((first | (have ee := True.intro; refine Wr.mk ?_) | ((first | refine br_go ?_ ?_ | refine pick_go ?_ ?_) <;> intro ee f <;> (try simp only [BB] at f) <;> (try simp only [numOk, verOk] at f))) <;> (try simp (maxSteps := 1000000) (disch := first | omega | (simp only [LN, numOk, verOk, rfP, rvP, rhP, frP, hg] <;> omega) | exact Ck.mk rfl) only [ee, VC, T, Nat.reduceMul, Nat.reduceAdd, Nat.reduceSub, Nat.reduceLT, Nat.reduceEqDiff, Nat.reduceLeDiff, Nat.reduceBEq, reduceCtorEq, Int.reduceToNat, ↓reduceIte, rfP, rvP, rhP, frP, hg]) <;> (try clear ee))
      · refine hN (i + 1) _ (by omega) (by omega) ?_
        rw [hsn, if_neg (by rw [decide_eq_false (fun h => h f)]; decide), List.append_nil]
        (simp (disch := first | omega | (simp only [LN, numOk, verOk] <;> omega) | exact Ck.mk rfl) only [SB, EQ, Nat.reduceMul, Nat.reduceAdd, Nat.reduceSub, Nat.reduceLT, Nat.reduceEqDiff, Nat.reduceLeDiff, Nat.reduceBEq, reduceCtorEq, Int.reduceToNat, ↓reduceIte]; try omega)
      · refine hN (i + 1) _ (by omega) (by omega) ?_
        rw [hsn, if_pos (decide_eq_true f), hmap]
        (simp (disch := first | omega | (simp only [LN, numOk, verOk, List.length_append, List.length_cons, List.length_nil] <;> omega) | exact Ck.mk rfl) only [SB, EQ, Nat.reduceMul, Nat.reduceAdd, Nat.reduceSub, Nat.reduceLT, Nat.reduceEqDiff, Nat.reduceLeDiff, Nat.reduceBEq, reduceCtorEq, Int.reduceToNat, ↓reduceIte, List.length_append, List.length_cons, List.length_nil]; try omega)
    · refine Wr.go ?_
      repeat' ((first | (have ee := True.intro; refine Wr.mk ?_) | ((first | refine br_go ?_ ?_ | refine pick_go ?_ ?_) <;> intro ee f <;> (try simp only [BB] at f) <;> (try simp only [numOk, verOk] at f))) <;> (try simp (maxSteps := 1000000) (disch := first | omega | (simp only [LN, numOk, verOk, rfP, rvP, rhP, frP] <;> omega) | exact Ck.mk rfl) only [ee, VC, T, Nat.reduceMul, Nat.reduceAdd, Nat.reduceSub, Nat.reduceLT, Nat.reduceEqDiff, Nat.reduceLeDiff, Nat.reduceBEq, reduceCtorEq, Int.reduceToNat, ↓reduceIte, rfP, rvP, rhP, frP]) <;> (try clear ee))
      obtain rfl : i = L.length := by omega
      rw [List.take_length] at hM
      rw [hM]
      exact fin_t [some 512] (⟨rfl, rfl⟩) rfl (by simp [RV, RV2, RVl, RV1, tau, tget, hget, data1, oneOf]) (by simp [RH, RVl, RV1, tau, hget, data1]) (by simp [Taus, hget])
theorem spec_l06Put_R (L : List Et) (e : Et) (hl : L.length ≤ 16777216) : FnE Tryz.prog 96 [.far (L.map enP), enP e] [] (fun r m => r = .row 64 (putT L e).length ∧ m = [(64, .row ⟨2, 0⟩ ((putT L e).map enP))]) := by
  have hst := fun d => putG_step e d L
  have hen : ∀ d, putG e d [] = if d then [] else [e] := fun _ => rfl
  have hpl := putT_len L e
  generalize hq : putT L e = q at *
  unfold putT at hq
  obtain ⟨en, ei⟩ := e
  unfold enP
  refine fn_e tok (n := 53) (rs := [.tmp 4]) Tryz.func96 (by decide) rfl rfl rfl rfl (low_of rfl) ?_
  refine Wr.go ?_
  repeat' ((first | (have ee := True.intro; refine Wr.mk ?_) | ((first | refine br_go ?_ ?_ | refine pick_go ?_ ?_) <;> intro ee f <;> (try simp only [BB] at f) <;> (try simp only [numOk, verOk] at f))) <;> (try simp (maxSteps := 1000000) (disch := first | omega | (simp only [LN, numOk, verOk, rfP, rvP, rhP, frP] <;> omega) | exact Ck.mk rfl) only [ee, VC, T, Nat.reduceMul, Nat.reduceAdd, Nat.reduceSub, Nat.reduceLT, Nat.reduceEqDiff, Nat.reduceLeDiff, Nat.reduceBEq, reduceCtorEq, Int.reduceToNat, ↓reduceIte, rfP, rvP, rhP, frP]) <;> (try clear ee))
  refine lp_go (fun x : Nat × List Et × Bool => ⟨53, [(0, .far (L.map fun x => .agg [.str x.1, .int .i64 x.2])), (3, .ref 256 0), (5, .row 576 x.2.1.length), (6, .bool x.2.2), (7, .int .i64 x.1)], [(256, .box 82 [.str en, .int .i64 ei]), (576, .row ⟨2, 0⟩ (x.2.1.map fun x => .agg [.str x.1, .int .i64 x.2]))]⟩) (fun x => x.1 ≤ L.length ∧ q = x.2.1 ++ putG (en, ei) x.2.2 (L.drop x.1)) (fun x => L.length - x.1) (0, [], false) ?_ ⟨Nat.zero_le _, hq.symm⟩ ?_
  · (simp (disch := first | omega | (simp only [LN, numOk, verOk] <;> omega) | exact Ck.mk rfl) only [SB, EQ, Nat.reduceMul, Nat.reduceAdd, Nat.reduceSub, Nat.reduceLT, Nat.reduceEqDiff, Nat.reduceLeDiff, Nat.reduceBEq, reduceCtorEq, Int.reduceToNat, ↓reduceIte]; try omega)
  · rintro ⟨i, M, d⟩ ⟨hi, hqq⟩ N hN
    simp only at hi hqq hN
    have hst := hst d i
    have hM1 : M.length ≤ q.length := by rw [hqq, List.length_append]; omega
    have hg : i < L.length → (L.map fun x : Et => PV.agg [.str x.1, .int .i64 x.2]).getD i .junk = .agg [.str (L.getD i default).1, .int .i64 (L.getD i default).2] := fun h => by
      rw [List.getD_eq_getElem?_getD, List.getElem?_map, List.getElem?_eq_getElem h, List.getD_eq_getElem?_getD, List.getElem?_eq_getElem h]; rfl
    by_cases h : i < L.length
    · have hst := hst h
      have hg := hg h
      generalize L.getD i default = p at *
      obtain ⟨b, c⟩ := p
      simp only at *
      refine Wr.go ?_
      repeat' ((first | (have ee := True.intro; refine Wr.mk ?_) | ((first | refine br_go ?_ ?_ | refine pick_go ?_ ?_) <;> intro ee f <;> (try simp only [BB] at f) <;> (try simp only [numOk, verOk] at f)) | (have ee := True.intro; first | refine dr_go mixed (id := 6) [([], [6], []), ([0], [15], []), ([0, 1], [16], []), ([0, 1, 2], [0, 17], []), ([0, 1, 2], [7, 17], []), ([0, 1, 2, 3, 4], [17, 18, 19], []), ([0, 1, 2, 3, 4, 5], [17, 20], []), ([0, 1, 2, 3, 4, 5, 6], [17, 21], []), ([0, 1, 2], [3, 17], []), ([0, 1, 2, 8], [17, 23], []), ([0, 1, 2, 3, 4, 5, 6, 7, 8, 9], [17, 22, 24], []), ([0, 1, 2, 3, 4, 5, 6, 7, 8, 9, 10], [17, 25], [])] rfl rfl rfl ?_ | refine dr_go mixed (id := 9) [([], [0], []), ([], [7], []), ([0, 1], [31, 32], []), ([0, 1, 2], [33], []), ([0, 1, 2, 3], [34], []), ([], [3], []), ([5], [36], []), ([0, 1, 2, 3, 4, 5, 6], [35, 37], [])] rfl rfl rfl ?_)) <;> (try simp (maxSteps := 1000000) (disch := first | omega | (simp only [LN, numOk, verOk, rfP, rvP, rhP, frP, hg] <;> omega) | exact Ck.mk rfl) only [ee, VC, T, Nat.reduceMul, Nat.reduceAdd, Nat.reduceSub, Nat.reduceLT, Nat.reduceEqDiff, Nat.reduceLeDiff, Nat.reduceBEq, reduceCtorEq, Int.reduceToNat, ↓reduceIte, rfP, rvP, rhP, frP, hg]) <;> (try clear ee))
      · rename_i g1
        refine hN (i + 1, M, true) _ ⟨by simp only; omega, ?_⟩ (by simp only; omega) ?_
        · rw [hqq, hst, if_neg (show ¬ (d = false ∧ sLt b en = false) from fun h => by rw [g1] at h; exact Bool.noConfusion h.1), if_pos f, g1]; simp
        · (simp (disch := first | omega | (simp only [LN, numOk, verOk, List.map_append, List.map_cons, List.map_nil, List.length_append, List.length_cons, List.length_nil] <;> omega) | exact Ck.mk rfl) only [SB, EQ, Nat.reduceMul, Nat.reduceAdd, Nat.reduceSub, Nat.reduceLT, Nat.reduceEqDiff, Nat.reduceLeDiff, Nat.reduceBEq, reduceCtorEq, Int.reduceToNat, ↓reduceIte, List.map_append, List.map_cons, List.map_nil, List.length_append, List.length_cons, List.length_nil]; try omega)
      · rename_i g1
        refine hN (i + 1, M ++ [(b, c)], true) _ ⟨by simp only; omega, ?_⟩ (by simp only; omega) ?_
        · rw [hqq, hst, if_neg (show ¬ (d = false ∧ sLt b en = false) from fun h => by rw [g1] at h; exact Bool.noConfusion h.1), if_neg f, g1]; simp
        · (simp (disch := first | omega | (simp only [LN, numOk, verOk, List.map_append, List.map_cons, List.map_nil, List.length_append, List.length_cons, List.length_nil] <;> omega) | exact Ck.mk rfl) only [SB, EQ, Nat.reduceMul, Nat.reduceAdd, Nat.reduceSub, Nat.reduceLT, Nat.reduceEqDiff, Nat.reduceLeDiff, Nat.reduceBEq, reduceCtorEq, Int.reduceToNat, ↓reduceIte, List.map_append, List.map_cons, List.map_nil, List.length_append, List.length_cons, List.length_nil]; try omega)
      · rename_i g1 g2
        have g2 : sLt b en = true := g2
        refine hN (i + 1, M, false) _ ⟨by simp only; omega, ?_⟩ (by simp only; omega) ?_
        · rw [hqq, hst, if_neg (show ¬ (d = false ∧ sLt b en = false) from fun h => by rw [g2] at h; exact Bool.noConfusion h.2), if_pos f, g1, g2]; simp
        · (simp (disch := first | omega | (simp only [LN, numOk, verOk, List.map_append, List.map_cons, List.map_nil, List.length_append, List.length_cons, List.length_nil] <;> omega) | exact Ck.mk rfl) only [SB, EQ, Nat.reduceMul, Nat.reduceAdd, Nat.reduceSub, Nat.reduceLT, Nat.reduceEqDiff, Nat.reduceLeDiff, Nat.reduceBEq, reduceCtorEq, Int.reduceToNat, ↓reduceIte, List.map_append, List.map_cons, List.map_nil, List.length_append, List.length_cons, List.length_nil]; try omega)
      · rename_i g1 g2
        have g2 : sLt b en = true := g2
        refine hN (i + 1, M ++ [(b, c)], false) _ ⟨by simp only; omega, ?_⟩ (by simp only; omega) ?_
        · rw [hqq, hst, if_neg (show ¬ (d = false ∧ sLt b en = false) from fun h => by rw [g2] at h; exact Bool.noConfusion h.2), if_neg f, g1, g2]; simp
        · (simp (disch := first | omega | (simp only [LN, numOk, verOk, List.map_append, List.map_cons, List.map_nil, List.length_append, List.length_cons, List.length_nil] <;> omega) | exact Ck.mk rfl) only [SB, EQ, Nat.reduceMul, Nat.reduceAdd, Nat.reduceSub, Nat.reduceLT, Nat.reduceEqDiff, Nat.reduceLeDiff, Nat.reduceBEq, reduceCtorEq, Int.reduceToNat, ↓reduceIte, List.map_append, List.map_cons, List.map_nil, List.length_append, List.length_cons, List.length_nil]; try omega)
      · rename_i g1 g2
        have g2 : sLt b en = false := g2
        refine hN (i + 1, M ++ [(en, ei)], true) _ ⟨by simp only; omega, ?_⟩ (by simp only; omega) ?_
        · rw [hqq, hst, if_pos (show d = false ∧ sLt b en = false from ⟨g1, g2⟩), if_pos f, g1, g2]; simp
        · (simp (disch := first | omega | (simp only [LN, numOk, verOk, List.map_append, List.map_cons, List.map_nil, List.length_append, List.length_cons, List.length_nil] <;> omega) | exact Ck.mk rfl) only [SB, EQ, Nat.reduceMul, Nat.reduceAdd, Nat.reduceSub, Nat.reduceLT, Nat.reduceEqDiff, Nat.reduceLeDiff, Nat.reduceBEq, reduceCtorEq, Int.reduceToNat, ↓reduceIte, List.map_append, List.map_cons, List.map_nil, List.length_append, List.length_cons, List.length_nil]; try omega)
      · rename_i g1 g2
        have g2 : sLt b en = false := g2
        refine hN (i + 1, M ++ [(en, ei)] ++ [(b, c)], true) _ ⟨by simp only; omega, ?_⟩ (by simp only; omega) ?_
        · rw [hqq, hst, if_pos (show d = false ∧ sLt b en = false from ⟨g1, g2⟩), if_neg f, g1, g2]; simp
        · (simp (disch := first | omega | (simp only [LN, numOk, verOk, List.map_append, List.map_cons, List.map_nil, List.length_append, List.length_cons, List.length_nil] <;> omega) | exact Ck.mk rfl) only [SB, EQ, Nat.reduceMul, Nat.reduceAdd, Nat.reduceSub, Nat.reduceLT, Nat.reduceEqDiff, Nat.reduceLeDiff, Nat.reduceBEq, reduceCtorEq, Int.reduceToNat, ↓reduceIte, List.map_append, List.map_cons, List.map_nil, List.length_append, List.length_cons, List.length_nil]; try omega)
    · rw [List.drop_eq_nil_of_le (by omega), hen] at hqq
      refine Wr.go ?_
      repeat' ((first | (have ee := True.intro; refine Wr.mk ?_) | ((first | refine br_go ?_ ?_ | refine pick_go ?_ ?_) <;> intro ee f <;> (try simp only [BB] at f) <;> (try simp only [numOk, verOk] at f))) <;> (try simp (maxSteps := 1000000) (disch := first | omega | (simp only [LN, numOk, verOk, rfP, rvP, rhP, frP] <;> omega) | exact Ck.mk rfl) only [ee, VC, T, Nat.reduceMul, Nat.reduceAdd, Nat.reduceSub, Nat.reduceLT, Nat.reduceEqDiff, Nat.reduceLeDiff, Nat.reduceBEq, reduceCtorEq, Int.reduceToNat, ↓reduceIte, rfP, rvP, rhP, frP]) <;> (try clear ee))
      · rw [f, if_pos rfl, List.append_nil] at hqq
        subst hqq
        exact fin_t [some 576] (⟨rfl, rfl⟩) rfl (by simp [RV, RV2, RVl, RV1, tau, tget, hget, data1, oneOf]) (by simp [RH, RVl, RV1, tau, hget, data1]) (by simp [Taus, hget])
      · rw [f, if_neg (by decide)] at hqq
        subst hqq
        exact fin_t [some 576] (⟨rfl, rfl⟩) rfl (by simp [RV, RV2, RVl, RV1, tau, tget, hget, data1, oneOf, List.map_append, List.map_cons, List.map_nil, List.length_append, List.length_cons, List.length_nil]) (by simp [RH, RVl, RV1, tau, hget, data1, List.map_append, List.map_cons, List.map_nil, List.length_append, List.length_cons, List.length_nil]) (by simp [Taus, hget, List.map_append, List.map_cons, List.map_nil, List.length_append, List.length_cons, List.length_nil])
end Go.Pv

/- What functions of the program and of the reference do, in plain values. -/
namespace Go.Pv
open Go.Proofs Go.Mth
set_option linter.unusedSimpArgs false
set_option linter.unusedVariables false
set_option maxHeartbeats 4000000
set_option maxRecDepth 4000

/-! ### the reference's deeds on disks: a step, right disks -/
theorem spec_l06Step (s : ByteArray) (hs : s.size ≤ 1048576) : Fn Tryz.prog 164 [.str s] [] (.tup [.str (stT s).1, .str (stT s).2.1, .int .i64 (stT s).2.2.1, .bool (stT s).2.2.2]) [] := by
  have hA := stT_A s
  have hB := stT_B s
  have hC := stT_C s
  have hD := stT_D s
  have hE := stT_E s
  have hci := colI_def s
  have hcs := findI_step (fun x : Int => decide (x = 58)) (bytesOf s)
  have hce := findI_end (fun x : Int => decide (x = 58)) (bytesOf s)
  have hbt : ∀ i : Nat, (bytesOf s).getD i default = bt s i := fun i => rd_bytesOf s i
  have hX : stNo s ↔ (s.size < 2 ∨ (bt s 0 ≠ 43 ∧ bt s 0 ≠ 45 ∧ bt s 0 ≠ 62)) := Iff.rfl
  have hNm := fun b (hb : b.size ≤ s.size) => spec_NameOk b (by omega)
  have hR := fun b (hb : b.size ≤ s.size) => spec_ReadDecimal b (by omega)
  have hel := ex_le s
  generalize stT s = q at *
  obtain ⟨q1, q2, q3, q4⟩ := q
  by_cases hno : stNo s
  · cases hA hno
    rw [hX] at hno
    refine fn_x tok (n := 92) (rs := [.tmp 2, .tmp 3, .tmp 4, .tmp 5]) Tryz.func164 (by decide) rfl rfl rfl rfl ?_
    refine Wr.go ?_
    repeat' ((first | (have ee := True.intro; refine Wr.mk ?_) | ((first | refine br_go ?_ ?_ | refine pick_go ?_ ?_) <;> intro ee f <;> (try simp only [BB] at f) <;> (try simp only [numOk, verOk] at f))) <;> (try simp (maxSteps := 1000000) (disch := first | omega | (simp only [LN, numOk, verOk, rfP, rvP, rhP, frP] <;> omega) | exact Ck.mk rfl) only [ee, VC, T, Nat.reduceMul, Nat.reduceAdd, Nat.reduceSub, Nat.reduceLT, Nat.reduceEqDiff, Nat.reduceLeDiff, Nat.reduceBEq, reduceCtorEq, Int.reduceToNat, ↓reduceIte, rfP, rvP, rhP, frP]) <;> (try clear ee))
    all_goals first | rfl | (exfalso; omega)
  · have hB := hB hno
    have hC := hC hno
    have hD := hD hno
    have hE := hE hno
    rw [hX] at hno
    by_cases h45 : bt s 0 = 45
    · cases hB h45
      refine fn_x tok (n := 92) (rs := [.tmp 2, .tmp 3, .tmp 4, .tmp 5]) Tryz.func164 (by decide) rfl rfl rfl rfl ?_
      refine Wr.go ?_
      repeat' ((first | (have ee := True.intro; refine Wr.mk ?_) | ((first | refine br_go ?_ ?_ | refine pick_go ?_ ?_) <;> intro ee f <;> (try simp only [BB] at f) <;> (try simp only [numOk, verOk] at f))) <;> (try simp (maxSteps := 1000000) (disch := first | omega | (simp only [LN, numOk, verOk, rfP, rvP, rhP, frP] <;> omega) | exact Ck.mk rfl) only [ee, VC, T, Nat.reduceMul, Nat.reduceAdd, Nat.reduceSub, Nat.reduceLT, Nat.reduceEqDiff, Nat.reduceLeDiff, Nat.reduceBEq, reduceCtorEq, Int.reduceToNat, ↓reduceIte, rfP, rvP, rhP, frP]) <;> (try clear ee))
      all_goals first | rfl | (exfalso; omega)
    · have hC := hC h45
      refine fn_x tok (n := 92) (rs := [.tmp 2, .tmp 3, .tmp 4, .tmp 5]) Tryz.func164 (by decide) rfl rfl rfl rfl ?_
      refine Wr.go ?_
      repeat' ((first | (have ee := True.intro; refine Wr.mk ?_) | ((first | refine br_go ?_ ?_ | refine pick_go ?_ ?_) <;> intro ee f <;> (try simp only [BB] at f) <;> (try simp only [numOk, verOk] at f))) <;> (try simp (maxSteps := 1000000) (disch := first | omega | (simp only [LN, numOk, verOk, rfP, rvP, rhP, frP] <;> omega) | exact Ck.mk rfl) only [ee, VC, T, Nat.reduceMul, Nat.reduceAdd, Nat.reduceSub, Nat.reduceLT, Nat.reduceEqDiff, Nat.reduceLeDiff, Nat.reduceBEq, reduceCtorEq, Int.reduceToNat, ↓reduceIte, rfP, rvP, rhP, frP]) <;> (try clear ee))
      · have f0 := f
        refine lp_go (fun i : Nat => ⟨92, [(0, .str s), (6, .int .i64 i)], []⟩) (fun i => 1 ≤ i ∧ i ≤ s.size ∧ colI s = findI (fun x : Int => decide (x = 58)) ((bytesOf s).drop i) i) (fun i => s.size - i) 1 ?_ ⟨Nat.le_refl _, by omega, hci⟩ ?_
        · (simp (disch := first | omega | (simp only [LN, numOk, verOk] <;> omega) | exact Ck.mk rfl) only [SB, EQ, Nat.reduceMul, Nat.reduceAdd, Nat.reduceSub, Nat.reduceLT, Nat.reduceEqDiff, Nat.reduceLeDiff, Nat.reduceBEq, reduceCtorEq, Int.reduceToNat, ↓reduceIte]; try omega)
        · rintro i ⟨h1, h2, h3⟩ N hN
          by_cases hi : i < s.size
          · have hcs := hcs i (by rw [bytesOf_length]; exact hi)
            rw [hbt] at hcs
            by_cases hc : bt s i = 58
            · rw [if_pos (decide_eq_true hc)] at hcs
              cases hE f0 i (h3.trans hcs)
              have hR := hR (s.extract (i + 1) s.size) (hel _ _)
              have hN1 := hNm (s.extract 1 i) (hel _ _)
              have hN2 := hNm (s.extract (i + 1) s.size) (hel _ _)
              generalize rdec (s.extract (i + 1) s.size) = p at *
              obtain ⟨v, ok⟩ := p
              refine Wr.go ?_
              repeat' ((first | (have ee := True.intro; refine Wr.mk ?_) | ((first | refine br_go ?_ ?_ | refine pick_go ?_ ?_) <;> intro ee f <;> (try simp only [BB] at f) <;> (try simp only [numOk, verOk] at f)) | (have ee := True.intro; first | refine dr_go mixed (id := 9) [([], [0], []), ([], [6], []), ([0, 1], [47, 48], []), ([], [0], []), ([], [6], []), ([4], [51], []), ([3, 4, 5], [50, 52], []), ([], [0], []), ([], [6], []), ([8], [55], []), ([7, 8, 9], [54, 56], []), ([7, 8, 9, 10], [57], []), ([7, 8, 9, 10, 11], [58], []), ([7, 8, 9, 10, 11, 12], [0, 59], []), ([7, 8, 9, 10, 11, 12], [6, 59], []), ([7, 8, 9, 10, 11, 12, 13, 14], [59, 60, 61], []), ([7, 8, 9, 10, 11, 12], [0, 59], []), ([7, 8, 9, 10, 11, 12], [6, 59], []), ([7, 8, 9, 10, 11, 12, 17], [59, 64], []), ([7, 8, 9, 10, 11, 12, 16, 17, 18], [59, 63, 65], []), ([7, 8, 9, 10, 11, 12, 13, 14, 15, 16, 17, 18, 19], [59, 62, 66], []), ([7, 8, 9, 10, 11, 12, 13, 14, 15, 16, 17, 18, 19, 20], [59, 67], []), ([0, 1, 2, 7, 8, 9, 10, 11, 12], [49], []), ([0, 1, 2, 3, 4, 5, 6, 7, 8, 9, 10, 11, 12, 22], [53], []), ([0, 1, 2, 3, 4, 5, 6, 7, 8, 9, 10, 11, 12, 22, 23], [], []), ([0, 1, 2, 3, 4, 5, 6, 7, 8, 9, 10, 11, 12, 13, 14, 15, 16, 17, 18, 19, 20, 21, 22, 23, 24], [68], [])] rfl rfl rfl ?_ | refine dr_go mixed (id := 12) [([], [0], []), ([], [6], []), ([0, 1], [81, 82], []), ([], [7], []), ([], [8], []), ([4], [85], []), ([4, 5], [0, 86], []), ([4, 5], [6, 86], []), ([4, 5, 6, 7], [86, 87, 88], []), ([4, 5, 6, 7, 8], [86, 89], []), ([4, 5, 6, 7, 8, 9], [86, 90], []), ([0, 1, 2, 4, 5, 6, 7, 8, 9], [83], []), ([0, 1, 2, 4, 5, 6, 7, 8, 9, 11], [], []), ([0, 1, 2, 3, 4, 5, 6, 7, 8, 9, 11, 12], [84], []), ([0, 1, 2, 3, 4, 5, 6, 7, 8, 9, 10, 11, 12, 13], [91], [])] rfl rfl rfl ?_ | refine call_x (hR) rfl ⟨rfl⟩ ?_ | refine call_x (hN1) rfl ⟨rfl⟩ ?_ | refine call_x (hN2) rfl ⟨rfl⟩ ?_)) <;> (try simp (maxSteps := 1000000) (disch := first | omega | (simp only [LN, numOk, verOk, rfP, rvP, rhP, frP, hc, f0] <;> omega) | exact Ck.mk rfl) only [ee, VC, T, Nat.reduceMul, Nat.reduceAdd, Nat.reduceSub, Nat.reduceLT, Nat.reduceEqDiff, Nat.reduceLeDiff, Nat.reduceBEq, reduceCtorEq, Int.reduceToNat, ↓reduceIte, rfP, rvP, rhP, frP, hc, f0]) <;> (try clear ee))
              all_goals (rw [show ((i : Int) + 1).toNat = i + 1 by omega])
            · rw [if_neg (by rw [decide_eq_false hc]; decide)] at hcs
              refine Wr.go ?_
              repeat' ((first | (have ee := True.intro; refine Wr.mk ?_) | ((first | refine br_go ?_ ?_ | refine pick_go ?_ ?_) <;> intro ee f <;> (try simp only [BB] at f) <;> (try simp only [numOk, verOk] at f)) | (have ee := True.intro; first | refine dr_go mixed (id := 9) [([], [0], []), ([], [6], []), ([0, 1], [47, 48], []), ([], [0], []), ([], [6], []), ([4], [51], []), ([3, 4, 5], [50, 52], []), ([], [0], []), ([], [6], []), ([8], [55], []), ([7, 8, 9], [54, 56], []), ([7, 8, 9, 10], [57], []), ([7, 8, 9, 10, 11], [58], []), ([7, 8, 9, 10, 11, 12], [0, 59], []), ([7, 8, 9, 10, 11, 12], [6, 59], []), ([7, 8, 9, 10, 11, 12, 13, 14], [59, 60, 61], []), ([7, 8, 9, 10, 11, 12], [0, 59], []), ([7, 8, 9, 10, 11, 12], [6, 59], []), ([7, 8, 9, 10, 11, 12, 17], [59, 64], []), ([7, 8, 9, 10, 11, 12, 16, 17, 18], [59, 63, 65], []), ([7, 8, 9, 10, 11, 12, 13, 14, 15, 16, 17, 18, 19], [59, 62, 66], []), ([7, 8, 9, 10, 11, 12, 13, 14, 15, 16, 17, 18, 19, 20], [59, 67], []), ([0, 1, 2, 7, 8, 9, 10, 11, 12], [49], []), ([0, 1, 2, 3, 4, 5, 6, 7, 8, 9, 10, 11, 12, 22], [53], []), ([0, 1, 2, 3, 4, 5, 6, 7, 8, 9, 10, 11, 12, 22, 23], [], []), ([0, 1, 2, 3, 4, 5, 6, 7, 8, 9, 10, 11, 12, 13, 14, 15, 16, 17, 18, 19, 20, 21, 22, 23, 24], [68], [])] rfl rfl rfl ?_ | refine dr_go mixed (id := 12) [([], [0], []), ([], [6], []), ([0, 1], [81, 82], []), ([], [7], []), ([], [8], []), ([4], [85], []), ([4, 5], [0, 86], []), ([4, 5], [6, 86], []), ([4, 5, 6, 7], [86, 87, 88], []), ([4, 5, 6, 7, 8], [86, 89], []), ([4, 5, 6, 7, 8, 9], [86, 90], []), ([0, 1, 2, 4, 5, 6, 7, 8, 9], [83], []), ([0, 1, 2, 4, 5, 6, 7, 8, 9, 11], [], []), ([0, 1, 2, 3, 4, 5, 6, 7, 8, 9, 11, 12], [84], []), ([0, 1, 2, 3, 4, 5, 6, 7, 8, 9, 10, 11, 12, 13], [91], [])] rfl rfl rfl ?_)) <;> (try simp (maxSteps := 1000000) (disch := first | omega | (simp only [LN, numOk, verOk, rfP, rvP, rhP, frP, hc, f0] <;> omega) | exact Ck.mk rfl) only [ee, VC, T, Nat.reduceMul, Nat.reduceAdd, Nat.reduceSub, Nat.reduceLT, Nat.reduceEqDiff, Nat.reduceLeDiff, Nat.reduceBEq, reduceCtorEq, Int.reduceToNat, ↓reduceIte, rfP, rvP, rhP, frP, hc, f0]) <;> (try clear ee))
              refine hN (i + 1) _ ⟨by omega, by omega, h3.trans hcs⟩ (by omega) ?_
              (simp (disch := first | omega | (simp only [LN, numOk, verOk] <;> omega) | exact Ck.mk rfl) only [SB, EQ, Nat.reduceMul, Nat.reduceAdd, Nat.reduceSub, Nat.reduceLT, Nat.reduceEqDiff, Nat.reduceLeDiff, Nat.reduceBEq, reduceCtorEq, Int.reduceToNat, ↓reduceIte]; try omega)
          · have hce := hce i (by rw [bytesOf_length]; omega)
            cases hC (h3.trans hce)
            refine Wr.go ?_
            repeat' ((first | (have ee := True.intro; refine Wr.mk ?_) | ((first | refine br_go ?_ ?_ | refine pick_go ?_ ?_) <;> intro ee f <;> (try simp only [BB] at f) <;> (try simp only [numOk, verOk] at f))) <;> (try simp (maxSteps := 1000000) (disch := first | omega | (simp only [LN, numOk, verOk, rfP, rvP, rhP, frP] <;> omega) | exact Ck.mk rfl) only [ee, VC, T, Nat.reduceMul, Nat.reduceAdd, Nat.reduceSub, Nat.reduceLT, Nat.reduceEqDiff, Nat.reduceLeDiff, Nat.reduceBEq, reduceCtorEq, Int.reduceToNat, ↓reduceIte, rfP, rvP, rhP, frP]) <;> (try clear ee))
      · have f0 : bt s 0 = 62 := by omega
        refine lp_go (fun i : Nat => ⟨92, [(0, .str s), (6, .int .i64 i)], []⟩) (fun i => 1 ≤ i ∧ i ≤ s.size ∧ colI s = findI (fun x : Int => decide (x = 58)) ((bytesOf s).drop i) i) (fun i => s.size - i) 1 ?_ ⟨Nat.le_refl _, by omega, hci⟩ ?_
        · (simp (disch := first | omega | (simp only [LN, numOk, verOk] <;> omega) | exact Ck.mk rfl) only [SB, EQ, Nat.reduceMul, Nat.reduceAdd, Nat.reduceSub, Nat.reduceLT, Nat.reduceEqDiff, Nat.reduceLeDiff, Nat.reduceBEq, reduceCtorEq, Int.reduceToNat, ↓reduceIte]; try omega)
        · rintro i ⟨h1, h2, h3⟩ N hN
          by_cases hi : i < s.size
          · have hcs := hcs i (by rw [bytesOf_length]; exact hi)
            rw [hbt] at hcs
            by_cases hc : bt s i = 58
            · rw [if_pos (decide_eq_true hc)] at hcs
              cases hD f0 i (h3.trans hcs)
              have hR := hR (s.extract (i + 1) s.size) (hel _ _)
              have hN1 := hNm (s.extract 1 i) (hel _ _)
              have hN2 := hNm (s.extract (i + 1) s.size) (hel _ _)
              generalize rdec (s.extract (i + 1) s.size) = p at *
              obtain ⟨v, ok⟩ := p
              refine Wr.go ?_
              repeat' ((first | (have ee := True.intro; refine Wr.mk ?_) | ((first | refine br_go ?_ ?_ | refine pick_go ?_ ?_) <;> intro ee f <;> (try simp only [BB] at f) <;> (try simp only [numOk, verOk] at f)) | (have ee := True.intro; first | refine dr_go mixed (id := 9) [([], [0], []), ([], [6], []), ([0, 1], [47, 48], []), ([], [0], []), ([], [6], []), ([4], [51], []), ([3, 4, 5], [50, 52], []), ([], [0], []), ([], [6], []), ([8], [55], []), ([7, 8, 9], [54, 56], []), ([7, 8, 9, 10], [57], []), ([7, 8, 9, 10, 11], [58], []), ([7, 8, 9, 10, 11, 12], [0, 59], []), ([7, 8, 9, 10, 11, 12], [6, 59], []), ([7, 8, 9, 10, 11, 12, 13, 14], [59, 60, 61], []), ([7, 8, 9, 10, 11, 12], [0, 59], []), ([7, 8, 9, 10, 11, 12], [6, 59], []), ([7, 8, 9, 10, 11, 12, 17], [59, 64], []), ([7, 8, 9, 10, 11, 12, 16, 17, 18], [59, 63, 65], []), ([7, 8, 9, 10, 11, 12, 13, 14, 15, 16, 17, 18, 19], [59, 62, 66], []), ([7, 8, 9, 10, 11, 12, 13, 14, 15, 16, 17, 18, 19, 20], [59, 67], []), ([0, 1, 2, 7, 8, 9, 10, 11, 12], [49], []), ([0, 1, 2, 3, 4, 5, 6, 7, 8, 9, 10, 11, 12, 22], [53], []), ([0, 1, 2, 3, 4, 5, 6, 7, 8, 9, 10, 11, 12, 22, 23], [], []), ([0, 1, 2, 3, 4, 5, 6, 7, 8, 9, 10, 11, 12, 13, 14, 15, 16, 17, 18, 19, 20, 21, 22, 23, 24], [68], [])] rfl rfl rfl ?_ | refine dr_go mixed (id := 12) [([], [0], []), ([], [6], []), ([0, 1], [81, 82], []), ([], [7], []), ([], [8], []), ([4], [85], []), ([4, 5], [0, 86], []), ([4, 5], [6, 86], []), ([4, 5, 6, 7], [86, 87, 88], []), ([4, 5, 6, 7, 8], [86, 89], []), ([4, 5, 6, 7, 8, 9], [86, 90], []), ([0, 1, 2, 4, 5, 6, 7, 8, 9], [83], []), ([0, 1, 2, 4, 5, 6, 7, 8, 9, 11], [], []), ([0, 1, 2, 3, 4, 5, 6, 7, 8, 9, 11, 12], [84], []), ([0, 1, 2, 3, 4, 5, 6, 7, 8, 9, 10, 11, 12, 13], [91], [])] rfl rfl rfl ?_ | refine call_x (hR) rfl ⟨rfl⟩ ?_ | refine call_x (hN1) rfl ⟨rfl⟩ ?_ | refine call_x (hN2) rfl ⟨rfl⟩ ?_)) <;> (try simp (maxSteps := 1000000) (disch := first | omega | (simp only [LN, numOk, verOk, rfP, rvP, rhP, frP, hc, f0] <;> omega) | exact Ck.mk rfl) only [ee, VC, T, Nat.reduceMul, Nat.reduceAdd, Nat.reduceSub, Nat.reduceLT, Nat.reduceEqDiff, Nat.reduceLeDiff, Nat.reduceBEq, reduceCtorEq, Int.reduceToNat, ↓reduceIte, rfP, rvP, rhP, frP, hc, f0]) <;> (try clear ee))
              all_goals (rw [show ((i : Int) + 1).toNat = i + 1 by omega])
            · rw [if_neg (by rw [decide_eq_false hc]; decide)] at hcs
              refine Wr.go ?_
              repeat' ((first | (have ee := True.intro; refine Wr.mk ?_) | ((first | refine br_go ?_ ?_ | refine pick_go ?_ ?_) <;> intro ee f <;> (try simp only [BB] at f) <;> (try simp only [numOk, verOk] at f)) | (have ee := True.intro; first | refine dr_go mixed (id := 9) [([], [0], []), ([], [6], []), ([0, 1], [47, 48], []), ([], [0], []), ([], [6], []), ([4], [51], []), ([3, 4, 5], [50, 52], []), ([], [0], []), ([], [6], []), ([8], [55], []), ([7, 8, 9], [54, 56], []), ([7, 8, 9, 10], [57], []), ([7, 8, 9, 10, 11], [58], []), ([7, 8, 9, 10, 11, 12], [0, 59], []), ([7, 8, 9, 10, 11, 12], [6, 59], []), ([7, 8, 9, 10, 11, 12, 13, 14], [59, 60, 61], []), ([7, 8, 9, 10, 11, 12], [0, 59], []), ([7, 8, 9, 10, 11, 12], [6, 59], []), ([7, 8, 9, 10, 11, 12, 17], [59, 64], []), ([7, 8, 9, 10, 11, 12, 16, 17, 18], [59, 63, 65], []), ([7, 8, 9, 10, 11, 12, 13, 14, 15, 16, 17, 18, 19], [59, 62, 66], []), ([7, 8, 9, 10, 11, 12, 13, 14, 15, 16, 17, 18, 19, 20], [59, 67], []), ([0, 1, 2, 7, 8, 9, 10, 11, 12], [49], []), ([0, 1, 2, 3, 4, 5, 6, 7, 8, 9, 10, 11, 12, 22], [53], []), ([0, 1, 2, 3, 4, 5, 6, 7, 8, 9, 10, 11, 12, 22, 23], [], []), ([0, 1, 2, 3, 4, 5, 6, 7, 8, 9, 10, 11, 12, 13, 14, 15, 16, 17, 18, 19, 20, 21, 22, 23, 24], [68], [])] rfl rfl rfl ?_ | refine dr_go mixed (id := 12) [([], [0], []), ([], [6], []), ([0, 1], [81, 82], []), ([], [7], []), ([], [8], []), ([4], [85], []), ([4, 5], [0, 86], []), ([4, 5], [6, 86], []), ([4, 5, 6, 7], [86, 87, 88], []), ([4, 5, 6, 7, 8], [86, 89], []), ([4, 5, 6, 7, 8, 9], [86, 90], []), ([0, 1, 2, 4, 5, 6, 7, 8, 9], [83], []), ([0, 1, 2, 4, 5, 6, 7, 8, 9, 11], [], []), ([0, 1, 2, 3, 4, 5, 6, 7, 8, 9, 11, 12], [84], []), ([0, 1, 2, 3, 4, 5, 6, 7, 8, 9, 10, 11, 12, 13], [91], [])] rfl rfl rfl ?_)) <;> (try simp (maxSteps := 1000000) (disch := first | omega | (simp only [LN, numOk, verOk, rfP, rvP, rhP, frP, hc, f0] <;> omega) | exact Ck.mk rfl) only [ee, VC, T, Nat.reduceMul, Nat.reduceAdd, Nat.reduceSub, Nat.reduceLT, Nat.reduceEqDiff, Nat.reduceLeDiff, Nat.reduceBEq, reduceCtorEq, Int.reduceToNat, ↓reduceIte, rfP, rvP, rhP, frP, hc, f0]) <;> (try clear ee))
              refine hN (i + 1) _ ⟨by omega, by omega, h3.trans hcs⟩ (by omega) ?_
              (simp (disch := first | omega | (simp only [LN, numOk, verOk] <;> omega) | exact Ck.mk rfl) only [SB, EQ, Nat.reduceMul, Nat.reduceAdd, Nat.reduceSub, Nat.reduceLT, Nat.reduceEqDiff, Nat.reduceLeDiff, Nat.reduceBEq, reduceCtorEq, Int.reduceToNat, ↓reduceIte]; try omega)
          · have hce := hce i (by rw [bytesOf_length]; omega)
            cases hC (h3.trans hce)
            refine Wr.go ?_
            repeat' ((first | (have ee := True.intro; refine Wr.mk ?_) | ((first | refine br_go ?_ ?_ | refine pick_go ?_ ?_) <;> intro ee f <;> (try simp only [BB] at f) <;> (try simp only [numOk, verOk] at f))) <;> (try simp (maxSteps := 1000000) (disch := first | omega | (simp only [LN, numOk, verOk, rfP, rvP, rhP, frP] <;> omega) | exact Ck.mk rfl) only [ee, VC, T, Nat.reduceMul, Nat.reduceAdd, Nat.reduceSub, Nat.reduceLT, Nat.reduceEqDiff, Nat.reduceLeDiff, Nat.reduceBEq, reduceCtorEq, Int.reduceToNat, ↓reduceIte, rfP, rvP, rhP, frP]) <;> (try clear ee))
end Go.Pv

/- What functions of the program and of the reference do, in plain values. -/
namespace Go.Pv
open Go.Proofs Go.Mth
set_option linter.unusedSimpArgs false
set_option linter.unusedVariables false
set_option maxHeartbeats 4000000
set_option maxRecDepth 4000

/-! ### the reference's deeds on disks: steps one by one, right disks -/
theorem nfx_en (L : List Et) : nfx (L.map enP) = True := eq_true (nfx_map _ _ fun a y hy => by
  simp only [enP, flat, List.mem_cons, List.not_mem_nil, or_false] at hy
  rcases hy with rfl | rfl <;> rfl)
theorem nfx_nd (L : List Nd) : nfx (L.map ndP) = True := eq_true (nfx_map _ _ fun a y hy => by
  simp only [ndP, flat, List.mem_cons, List.not_mem_nil, or_false] at hy
  rcases hy with rfl | rfl | rfl <;> rfl)
theorem elOk_en (L : List Et) : elOk 2 (L.map enP) = True := eq_true fun z hz => by
  obtain ⟨a, _, rfl⟩ := List.mem_map.1 hz
  exact ⟨rfl, rfl⟩
theorem elOk_nd (L : List Nd) : elOk 3 (L.map ndP) = True := eq_true fun z hz => by
  obtain ⟨a, _, rfl⟩ := List.mem_map.1 hz
  exact ⟨rfl, rfl⟩
theorem spec_StepsDone_R (L0 : List Et) (S : List ByteArray) (k : Nat) (hL : L0.length ≤ 1048576) (hS : S.length ≤ 1048576) (hz : ∀ s ∈ S, s.size ≤ 1048576) (hn : ∀ e ∈ L0, e.1.size ≤ 1048576) (hk : k ≤ S.length) : FnE Tryz.prog 117 [.far (L0.map enP), .far (S.map .str), .int .i64 k] [] (fun r m => r = .tup [.row 64 (sgT L0 (S.take k)).1.length, .bool (sgT L0 (S.take k)).2] ∧ m = [(64, .row ⟨2, 0⟩ ((sgT L0 (S.take k)).1.map enP))]) := by
  have hB : (if (S.length : Int) < 0 ∨ (k : Int) < 0 then (0 : Int) else if (S.length : Int) < k then (S.length : Int) else (k : Int)) = k := by rw [if_neg (by omega), if_neg (by omega)]
  have hBr := spec_Brought k 0 S.length
  rw [hB] at hBr
  have hst := fun L => sgT_step L (S.take k)
  have hen : ∀ L, sgT L [] = (L, true) := fun _ => rfl
  have hlt : (S.take k).length = k := by rw [List.length_take]; omega
  have hat : ∀ i, i < k → (S.take k).getD i default = S.getD i default := fun i hi => by
    rw [List.getD_eq_getElem?_getD, List.getElem?_take, if_pos hi, List.getD_eq_getElem?_getD]
  have hdk : (S.take k).drop k = [] := List.drop_eq_nil_of_le (by omega)
  generalize S.take k = Z at *
  generalize hq : sgT L0 Z = q at *
  refine fn_e tok (n := 89) (rs := [.tmp 6, .tmp 7]) Tryz.func117 (by decide) rfl rfl rfl rfl (low_of rfl) ?_
  refine Wr.go ?_
  repeat' ((first | (have ee := True.intro; refine Wr.mk ?_) | ((first | refine br_go ?_ ?_ | refine pick_go ?_ ?_) <;> intro ee f <;> (try simp only [BB] at f) <;> (try simp only [numOk, verOk] at f)) | (have ee := True.intro; first | refine call_x (hBr) rfl ⟨rfl⟩ ?_)) <;> (try simp (maxSteps := 1000000) (disch := first | omega | (simp only [LN, numOk, verOk, rfP, rvP, rhP, frP, elOk_en, elOk_nd, nfx_en, nfx_nd] <;> omega) | exact Ck.mk rfl) only [ee, VC, T, Nat.reduceMul, Nat.reduceAdd, Nat.reduceSub, Nat.reduceLT, Nat.reduceEqDiff, Nat.reduceLeDiff, Nat.reduceBEq, reduceCtorEq, Int.reduceToNat, ↓reduceIte, rfP, rvP, rhP, frP, elOk_en, elOk_nd, nfx_en, nfx_nd]) <;> (try clear ee))
  refine lp_im (fun x : Nat × List Et => ⟨89, [(1, .far (S.map .str)), (2, .int .i64 k), (8, .row 960 x.2.length), (9, .int .i64 x.1)], [(960, .row ⟨2, 0⟩ (x.2.map enP))]⟩) (fun x => x.1 ≤ k ∧ (x.2.length ≤ L0.length + x.1 ∧ ∀ e ∈ x.2, e.1.size ≤ 1048576) ∧ q = sgT x.2 (Z.drop x.1)) (fun x => k - x.1) (0, L0) ?_ ⟨Nat.zero_le _, ⟨Nat.le_refl _, hn⟩, hq.symm⟩ ?_
  · refine Im.sub ?_
    (simp (disch := first | omega | (simp only [LN, numOk, verOk] <;> omega) | exact Ck.mk rfl) only [SB, EQ, Nat.reduceMul, Nat.reduceAdd, Nat.reduceSub, Nat.reduceLT, Nat.reduceEqDiff, Nat.reduceLeDiff, Nat.reduceBEq, reduceCtorEq, Int.reduceToNat, ↓reduceIte]; try omega)
  · rintro ⟨i, L⟩ ⟨hi, ⟨hl1, hl2⟩, hqq⟩ N hN
    simp only at hi hl1 hl2 hqq hN
    by_cases h : i < k
    · have hst := hst L i (by omega)
      have hat := hat i h
      rw [hat] at hst
      have hsz : (S.getD i default).size ≤ 1048576 := by
        rw [List.getD_eq_getElem?_getD, List.getElem?_eq_getElem (by omega)]; exact hz _ (List.getElem_mem _)
      generalize hsq : S.getD i default = s at *
      have hle := fun M hM => sdT_le L s M 1048576 hM hl2 hsz
      have hT := spec_l06Step s hsz
      have h1 := sdT_no L s
      have h2 := sdT_43 L s
      have h3 := sdT_45 L s
      have h4 := sdT_62 L s
      have hok := stT_ok s
      have hstl := stT_le s
      have hdl := dropT_len L
      generalize stT s = t at *
      obtain ⟨nm, to, id, ok⟩ := t
      simp only at *
      have hNm := spec_NameOk nm (by omega)
      have hHas := spec_l06Has L nm (by omega)
      have hEnt := spec_EntryAt L nm (by omega)
      have hDr := spec_l06Drop_R L nm (by omega)
      have hP1 : FnE Tryz.prog 96 [.far (L.map enP), .agg [.str nm, .int .i64 id]] [] (fun r m => r = .row 64 (putT L (nm, id)).length ∧ m = [(64, .row ⟨2, 0⟩ ((putT L (nm, id)).map enP))]) := spec_l06Put_R L (nm, id) (by omega)
      have hP2 : FnE Tryz.prog 96 [.far ((dropT L nm).map enP), .agg [.str to, .int .i64 (entT L nm)]] [] (fun r m => r = .row 64 (putT (dropT L nm) (to, entT L nm)).length ∧ m = [(64, .row ⟨2, 0⟩ ((putT (dropT L nm) (to, entT L nm)).map enP))]) := spec_l06Put_R (dropT L nm) (to, entT L nm) (by have := hdl nm; omega)
      have nx : ∀ M, sdT L s = some M → i + 1 ≤ k ∧ (M.length ≤ L0.length + (i + 1) ∧ ∀ e ∈ M, e.1.size ≤ 1048576) ∧ q = sgT M (Z.drop (i + 1)) := fun M hM => ⟨by omega, ⟨by have := (hle M hM).1; omega, (hle M hM).2⟩, by rw [hqq, hst, hM]⟩
      have no : sdT L s = none → q = ([], false) := fun hM => by rw [hqq, hst, hM]
      cases ok with
      | false =>
        cases no (h1 (.inl rfl))
        refine Wr.go ?_
        repeat' ((first | (have ee := True.intro; refine Wr.mk ?_) | ((first | refine br_go ?_ ?_ | refine pick_go ?_ ?_) <;> intro ee f <;> (try simp only [BB] at f) <;> (try simp only [numOk, verOk] at f)) | (have ee := True.intro; first | refine call_x (hT) rfl ⟨rfl⟩ ?_)) <;> (try simp (maxSteps := 1000000) (disch := first | omega | (simp only [LN, numOk, verOk, rfP, rvP, rhP, frP, elOk_en, elOk_nd, nfx_en, nfx_nd, hsq] <;> omega) | exact Ck.mk rfl) only [ee, VC, T, Nat.reduceMul, Nat.reduceAdd, Nat.reduceSub, Nat.reduceLT, Nat.reduceEqDiff, Nat.reduceLeDiff, Nat.reduceBEq, reduceCtorEq, Int.reduceToNat, ↓reduceIte, rfP, rvP, rhP, frP, elOk_en, elOk_nd, nfx_en, nfx_nd, hsq]) <;> (try clear ee))
        all_goals exact fin_t [some 3712] (⟨rfl, rfl⟩) rfl (by simp [RV, RV2, RVl, RV1, tau, tget, hget, data1, oneOf]) (by simp [RH, RVl, RV1, tau, hget, data1]) (by simp [Taus, hget])
      | true =>
        obtain ⟨hok1, hok2⟩ := hok rfl
        by_cases hnm : nmOk nm
        · rw [decide_eq_true hnm] at hNm
          by_cases c43 : bt s 0 = 43
          · have nx := nx _ (h2 rfl hnm c43)
            refine Wr.go ?_
            repeat' ((first | (have ee := True.intro; refine Wr.mk ?_) | ((first | refine br_go ?_ ?_ | refine pick_go ?_ ?_) <;> intro ee f <;> (try simp only [BB] at f) <;> (try simp only [numOk, verOk] at f)) | (have ee := True.intro; first | refine call_x (hT) rfl ⟨rfl⟩ ?_ | refine call_x (hNm) rfl ⟨rfl⟩ ?_ | (refine call_h [] [960] (hP1) (by decide) ?_ rfl ?_; (focus (first | rfl | (simp (maxSteps := 1000000) (disch := first | omega | (simp only [LN, numOk, verOk, rfP, rvP, rhP, frP, elOk_en, elOk_nd, nfx_en, nfx_nd, hsq, c43] <;> omega) | exact Ck.mk rfl) only [VC, T, Nat.reduceMul, Nat.reduceAdd, Nat.reduceSub, Nat.reduceLT, Nat.reduceEqDiff, Nat.reduceLeDiff, Nat.reduceBEq, reduceCtorEq, Int.reduceToNat, ↓reduceIte, rfP, rvP, rhP, frP, elOk_en, elOk_nd, nfx_en, nfx_nd, hsq, c43]; done))); rintro _ _ ⟨rfl, rfl⟩))) <;> (try simp (maxSteps := 1000000) (disch := first | omega | (simp only [LN, numOk, verOk, rfP, rvP, rhP, frP, elOk_en, elOk_nd, nfx_en, nfx_nd, hsq, c43] <;> omega) | exact Ck.mk rfl) only [ee, VC, T, Nat.reduceMul, Nat.reduceAdd, Nat.reduceSub, Nat.reduceLT, Nat.reduceEqDiff, Nat.reduceLeDiff, Nat.reduceBEq, reduceCtorEq, Int.reduceToNat, ↓reduceIte, rfP, rvP, rhP, frP, elOk_en, elOk_nd, nfx_en, nfx_nd, hsq, c43]) <;> (try clear ee))
            refine hN (i + 1, putT L (nm, id)) _ nx (by simp only; omega) (Im.trans (Im.sub ?_) (Im.trans (Im.ren 8 5632 960 (by rfl) (by rfl) (by decide)) (Im.sub (s' := ⟨89, [(1, .far (S.map .str)), (2, .int .i64 k), (8, .row 5632 (putT L (nm, id)).length), (9, .int .i64 ((i : Int) + 1))], [(5632, .row ⟨2, 0⟩ ((putT L (nm, id)).map enP))]⟩) ?_)))
            · (simp (disch := first | omega | (simp only [LN, numOk, verOk, mvH, rn2, rn1] <;> omega) | exact Ck.mk rfl) only [SB, EQ, Nat.reduceMul, Nat.reduceAdd, Nat.reduceSub, Nat.reduceLT, Nat.reduceEqDiff, Nat.reduceLeDiff, Nat.reduceBEq, reduceCtorEq, Int.reduceToNat, ↓reduceIte, mvH, rn2, rn1]; try omega)
            · (simp (disch := first | omega | (simp only [LN, numOk, verOk] <;> omega) | exact Ck.mk rfl) only [SB, EQ, Nat.reduceMul, Nat.reduceAdd, Nat.reduceSub, Nat.reduceLT, Nat.reduceEqDiff, Nat.reduceLeDiff, Nat.reduceBEq, reduceCtorEq, Int.reduceToNat, ↓reduceIte]; try omega)
          · by_cases hh : hasT L nm
            · rw [decide_eq_true (show 0 ≤ placeI L nm from hh)] at hHas
              by_cases c45 : bt s 0 = 45
              · have nx := nx _ (h3 rfl hnm c45 hh)
                refine Wr.go ?_
                repeat' ((first | (have ee := True.intro; refine Wr.mk ?_) | ((first | refine br_go ?_ ?_ | refine pick_go ?_ ?_) <;> intro ee f <;> (try simp only [BB] at f) <;> (try simp only [numOk, verOk] at f)) | (have ee := True.intro; first | refine call_x (hT) rfl ⟨rfl⟩ ?_ | refine call_x (hNm) rfl ⟨rfl⟩ ?_ | (refine call_hx [] [960] (hHas) (by decide) ?_ rfl ?_; (focus (first | rfl | (simp (maxSteps := 1000000) (disch := first | omega | (simp only [LN, numOk, verOk, rfP, rvP, rhP, frP, elOk_en, elOk_nd, nfx_en, nfx_nd, hsq, c45] <;> omega) | exact Ck.mk rfl) only [VC, T, Nat.reduceMul, Nat.reduceAdd, Nat.reduceSub, Nat.reduceLT, Nat.reduceEqDiff, Nat.reduceLeDiff, Nat.reduceBEq, reduceCtorEq, Int.reduceToNat, ↓reduceIte, rfP, rvP, rhP, frP, elOk_en, elOk_nd, nfx_en, nfx_nd, hsq, c45]; done)))) | (refine call_h [] [960] (hDr) (by decide) ?_ rfl ?_; (focus (first | rfl | (simp (maxSteps := 1000000) (disch := first | omega | (simp only [LN, numOk, verOk, rfP, rvP, rhP, frP, elOk_en, elOk_nd, nfx_en, nfx_nd, hsq, c45] <;> omega) | exact Ck.mk rfl) only [VC, T, Nat.reduceMul, Nat.reduceAdd, Nat.reduceSub, Nat.reduceLT, Nat.reduceEqDiff, Nat.reduceLeDiff, Nat.reduceBEq, reduceCtorEq, Int.reduceToNat, ↓reduceIte, rfP, rvP, rhP, frP, elOk_en, elOk_nd, nfx_en, nfx_nd, hsq, c45]; done))); rintro _ _ ⟨rfl, rfl⟩))) <;> (try simp (maxSteps := 1000000) (disch := first | omega | (simp only [LN, numOk, verOk, rfP, rvP, rhP, frP, elOk_en, elOk_nd, nfx_en, nfx_nd, hsq, c45] <;> omega) | exact Ck.mk rfl) only [ee, VC, T, Nat.reduceMul, Nat.reduceAdd, Nat.reduceSub, Nat.reduceLT, Nat.reduceEqDiff, Nat.reduceLeDiff, Nat.reduceBEq, reduceCtorEq, Int.reduceToNat, ↓reduceIte, rfP, rvP, rhP, frP, elOk_en, elOk_nd, nfx_en, nfx_nd, hsq, c45]) <;> (try clear ee))
                refine hN (i + 1, dropT L nm) _ nx (by simp only; omega) (Im.trans (Im.sub ?_) (Im.trans (Im.ren 8 4864 960 (by rfl) (by rfl) (by decide)) (Im.sub (s' := ⟨89, [(1, .far (S.map .str)), (2, .int .i64 k), (8, .row 4864 (dropT L nm).length), (9, .int .i64 ((i : Int) + 1))], [(4864, .row ⟨2, 0⟩ ((dropT L nm).map enP))]⟩) ?_)))
                · (simp (disch := first | omega | (simp only [LN, numOk, verOk, mvH, rn2, rn1] <;> omega) | exact Ck.mk rfl) only [SB, EQ, Nat.reduceMul, Nat.reduceAdd, Nat.reduceSub, Nat.reduceLT, Nat.reduceEqDiff, Nat.reduceLeDiff, Nat.reduceBEq, reduceCtorEq, Int.reduceToNat, ↓reduceIte, mvH, rn2, rn1]; try omega)
                · (simp (disch := first | omega | (simp only [LN, numOk, verOk] <;> omega) | exact Ck.mk rfl) only [SB, EQ, Nat.reduceMul, Nat.reduceAdd, Nat.reduceSub, Nat.reduceLT, Nat.reduceEqDiff, Nat.reduceLeDiff, Nat.reduceBEq, reduceCtorEq, Int.reduceToNat, ↓reduceIte]; try omega)
              · have c62 : bt s 0 = 62 := by omega
                have nx := nx _ (h4 rfl hnm c62 hh)
                refine Wr.go ?_
                repeat' ((first | (have ee := True.intro; refine Wr.mk ?_) | ((first | refine br_go ?_ ?_ | refine pick_go ?_ ?_) <;> intro ee f <;> (try simp only [BB] at f) <;> (try simp only [numOk, verOk] at f)) | (have ee := True.intro; first | refine call_x (hT) rfl ⟨rfl⟩ ?_ | refine call_x (hNm) rfl ⟨rfl⟩ ?_ | (refine call_hx [] [960] (hHas) (by decide) ?_ rfl ?_; (focus (first | rfl | (simp (maxSteps := 1000000) (disch := first | omega | (simp only [LN, numOk, verOk, rfP, rvP, rhP, frP, elOk_en, elOk_nd, nfx_en, nfx_nd, hsq, c62] <;> omega) | exact Ck.mk rfl) only [VC, T, Nat.reduceMul, Nat.reduceAdd, Nat.reduceSub, Nat.reduceLT, Nat.reduceEqDiff, Nat.reduceLeDiff, Nat.reduceBEq, reduceCtorEq, Int.reduceToNat, ↓reduceIte, rfP, rvP, rhP, frP, elOk_en, elOk_nd, nfx_en, nfx_nd, hsq, c62]; done)))) | (refine call_hx [] [960] (hEnt) (by decide) ?_ rfl ?_; (focus (first | rfl | (simp (maxSteps := 1000000) (disch := first | omega | (simp only [LN, numOk, verOk, rfP, rvP, rhP, frP, elOk_en, elOk_nd, nfx_en, nfx_nd, hsq, c62] <;> omega) | exact Ck.mk rfl) only [VC, T, Nat.reduceMul, Nat.reduceAdd, Nat.reduceSub, Nat.reduceLT, Nat.reduceEqDiff, Nat.reduceLeDiff, Nat.reduceBEq, reduceCtorEq, Int.reduceToNat, ↓reduceIte, rfP, rvP, rhP, frP, elOk_en, elOk_nd, nfx_en, nfx_nd, hsq, c62]; done)))) | (refine call_h [] [960] (hDr) (by decide) ?_ rfl ?_; (focus (first | rfl | (simp (maxSteps := 1000000) (disch := first | omega | (simp only [LN, numOk, verOk, rfP, rvP, rhP, frP, elOk_en, elOk_nd, nfx_en, nfx_nd, hsq, c62] <;> omega) | exact Ck.mk rfl) only [VC, T, Nat.reduceMul, Nat.reduceAdd, Nat.reduceSub, Nat.reduceLT, Nat.reduceEqDiff, Nat.reduceLeDiff, Nat.reduceBEq, reduceCtorEq, Int.reduceToNat, ↓reduceIte, rfP, rvP, rhP, frP, elOk_en, elOk_nd, nfx_en, nfx_nd, hsq, c62]; done))); rintro _ _ ⟨rfl, rfl⟩) | (refine call_h [] [4864] (hP2) (by decide) ?_ rfl ?_; (focus (first | rfl | (simp (maxSteps := 1000000) (disch := first | omega | (simp only [LN, numOk, verOk, rfP, rvP, rhP, frP, elOk_en, elOk_nd, nfx_en, nfx_nd, hsq, c62] <;> omega) | exact Ck.mk rfl) only [VC, T, Nat.reduceMul, Nat.reduceAdd, Nat.reduceSub, Nat.reduceLT, Nat.reduceEqDiff, Nat.reduceLeDiff, Nat.reduceBEq, reduceCtorEq, Int.reduceToNat, ↓reduceIte, rfP, rvP, rhP, frP, elOk_en, elOk_nd, nfx_en, nfx_nd, hsq, c62]; done))); rintro _ _ ⟨rfl, rfl⟩))) <;> (try simp (maxSteps := 1000000) (disch := first | omega | (simp only [LN, numOk, verOk, rfP, rvP, rhP, frP, elOk_en, elOk_nd, nfx_en, nfx_nd, hsq, c62] <;> omega) | exact Ck.mk rfl) only [ee, VC, T, Nat.reduceMul, Nat.reduceAdd, Nat.reduceSub, Nat.reduceLT, Nat.reduceEqDiff, Nat.reduceLeDiff, Nat.reduceBEq, reduceCtorEq, Int.reduceToNat, ↓reduceIte, rfP, rvP, rhP, frP, elOk_en, elOk_nd, nfx_en, nfx_nd, hsq, c62]) <;> (try clear ee))
                refine hN (i + 1, putT (dropT L nm) (to, entT L nm)) _ nx (by simp only; omega) (Im.trans (Im.sub ?_) (Im.trans (Im.ren 8 5632 960 (by rfl) (by rfl) (by decide)) (Im.sub (s' := ⟨89, [(1, .far (S.map .str)), (2, .int .i64 k), (8, .row 5632 (putT (dropT L nm) (to, entT L nm)).length), (9, .int .i64 ((i : Int) + 1))], [(5632, .row ⟨2, 0⟩ ((putT (dropT L nm) (to, entT L nm)).map enP))]⟩) ?_)))
                · (simp (disch := first | omega | (simp only [LN, numOk, verOk, mvH, rn2, rn1] <;> omega) | exact Ck.mk rfl) only [SB, EQ, Nat.reduceMul, Nat.reduceAdd, Nat.reduceSub, Nat.reduceLT, Nat.reduceEqDiff, Nat.reduceLeDiff, Nat.reduceBEq, reduceCtorEq, Int.reduceToNat, ↓reduceIte, mvH, rn2, rn1]; try omega)
                · (simp (disch := first | omega | (simp only [LN, numOk, verOk] <;> omega) | exact Ck.mk rfl) only [SB, EQ, Nat.reduceMul, Nat.reduceAdd, Nat.reduceSub, Nat.reduceLT, Nat.reduceEqDiff, Nat.reduceLeDiff, Nat.reduceBEq, reduceCtorEq, Int.reduceToNat, ↓reduceIte]; try omega)
            · rw [decide_eq_false (show ¬ 0 ≤ placeI L nm from hh)] at hHas
              cases no (h1 (.inr (.inr ⟨c43, hh⟩)))
              refine Wr.go ?_
              repeat' ((first | (have ee := True.intro; refine Wr.mk ?_) | ((first | refine br_go ?_ ?_ | refine pick_go ?_ ?_) <;> intro ee f <;> (try simp only [BB] at f) <;> (try simp only [numOk, verOk] at f)) | (have ee := True.intro; first | refine call_x (hT) rfl ⟨rfl⟩ ?_ | refine call_x (hNm) rfl ⟨rfl⟩ ?_ | (refine call_hx [] [960] (hHas) (by decide) ?_ rfl ?_; (focus (first | rfl | (simp (maxSteps := 1000000) (disch := first | omega | (simp only [LN, numOk, verOk, rfP, rvP, rhP, frP, elOk_en, elOk_nd, nfx_en, nfx_nd, hsq] <;> omega) | exact Ck.mk rfl) only [VC, T, Nat.reduceMul, Nat.reduceAdd, Nat.reduceSub, Nat.reduceLT, Nat.reduceEqDiff, Nat.reduceLeDiff, Nat.reduceBEq, reduceCtorEq, Int.reduceToNat, ↓reduceIte, rfP, rvP, rhP, frP, elOk_en, elOk_nd, nfx_en, nfx_nd, hsq]; done)))))) <;> (try simp (maxSteps := 1000000) (disch := first | omega | (simp only [LN, numOk, verOk, rfP, rvP, rhP, frP, elOk_en, elOk_nd, nfx_en, nfx_nd, hsq] <;> omega) | exact Ck.mk rfl) only [ee, VC, T, Nat.reduceMul, Nat.reduceAdd, Nat.reduceSub, Nat.reduceLT, Nat.reduceEqDiff, Nat.reduceLeDiff, Nat.reduceBEq, reduceCtorEq, Int.reduceToNat, ↓reduceIte, rfP, rvP, rhP, frP, elOk_en, elOk_nd, nfx_en, nfx_nd, hsq]) <;> (try clear ee))
              all_goals first | (exfalso; omega) | exact fin_t [some 3712] (⟨rfl, rfl⟩) rfl (by simp [RV, RV2, RVl, RV1, tau, tget, hget, data1, oneOf]) (by simp [RH, RVl, RV1, tau, hget, data1]) (by simp [Taus, hget])
        · rw [decide_eq_false hnm] at hNm
          cases no (h1 (.inr (.inl hnm)))
          refine Wr.go ?_
          repeat' ((first | (have ee := True.intro; refine Wr.mk ?_) | ((first | refine br_go ?_ ?_ | refine pick_go ?_ ?_) <;> intro ee f <;> (try simp only [BB] at f) <;> (try simp only [numOk, verOk] at f)) | (have ee := True.intro; first | refine call_x (hT) rfl ⟨rfl⟩ ?_ | refine call_x (hNm) rfl ⟨rfl⟩ ?_)) <;> (try simp (maxSteps := 1000000) (disch := first | omega | (simp only [LN, numOk, verOk, rfP, rvP, rhP, frP, elOk_en, elOk_nd, nfx_en, nfx_nd, hsq] <;> omega) | exact Ck.mk rfl) only [ee, VC, T, Nat.reduceMul, Nat.reduceAdd, Nat.reduceSub, Nat.reduceLT, Nat.reduceEqDiff, Nat.reduceLeDiff, Nat.reduceBEq, reduceCtorEq, Int.reduceToNat, ↓reduceIte, rfP, rvP, rhP, frP, elOk_en, elOk_nd, nfx_en, nfx_nd, hsq]) <;> (try clear ee))
          all_goals exact fin_t [some 3712] (⟨rfl, rfl⟩) rfl (by simp [RV, RV2, RVl, RV1, tau, tget, hget, data1, oneOf]) (by simp [RH, RVl, RV1, tau, hget, data1]) (by simp [Taus, hget])
    · refine Wr.go ?_
      repeat' ((first | (have ee := True.intro; refine Wr.mk ?_) | ((first | refine br_go ?_ ?_ | refine pick_go ?_ ?_) <;> intro ee f <;> (try simp only [BB] at f) <;> (try simp only [numOk, verOk] at f))) <;> (try simp (maxSteps := 1000000) (disch := first | omega | (simp only [LN, numOk, verOk, rfP, rvP, rhP, frP, elOk_en, elOk_nd, nfx_en, nfx_nd] <;> omega) | exact Ck.mk rfl) only [ee, VC, T, Nat.reduceMul, Nat.reduceAdd, Nat.reduceSub, Nat.reduceLT, Nat.reduceEqDiff, Nat.reduceLeDiff, Nat.reduceBEq, reduceCtorEq, Int.reduceToNat, ↓reduceIte, rfP, rvP, rhP, frP, elOk_en, elOk_nd, nfx_en, nfx_nd]) <;> (try clear ee))
      obtain rfl : i = k := by omega
      rw [hdk, hen] at hqq
      subst hqq
      exact fin_t [some 960] (⟨rfl, rfl⟩) rfl (by simp [RV, RV2, RVl, RV1, tau, tget, hget, data1, oneOf]) (by simp [RH, RVl, RV1, tau, hget, data1]) (by simp [Taus, hget])
theorem spec_StepsDone (L0 : List Et) (S : List ByteArray) (k : Nat) (hL : L0.length ≤ 1048576) (hS : S.length ≤ 1048576) (hz : ∀ s ∈ S, s.size ≤ 1048576) (hn : ∀ e ∈ L0, e.1.size ≤ 1048576) (hk : k ≤ S.length) : Fn Tryz.prog 117 [.far (L0.map enP), .far (S.map .str), .int .i64 k] [] (.tup [.far ((sgT L0 (S.take k)).1.map enP), .bool (sgT L0 (S.take k)).2]) [] := by
  obtain ⟨_, _, ⟨rfl, rfl⟩, k⟩ := spec_StepsDone_R L0 S k hL hS hz hn hk
  refine k.far ?_
  simp [fz, fz2, fz1, cvtl, elems, hget, data1]
end Go.Pv

/- What functions of the program and of the reference do, in plain values. -/
namespace Go.Pv
open Go.Proofs Go.Mth
set_option linter.unusedSimpArgs false
set_option linter.unusedVariables false
set_option maxHeartbeats 4000000
set_option maxRecDepth 4000

/-! ### the reference's deeds on disks: right disks -/
def entB (d : Dk) (L : List Et) (i : Nat) : Prop := nmOk (L.getD i default).1 ∧ 0 ≤ nodeI d.1 (L.getD i default).2 ∧ (0 < i → sLt (L.getD (i - 1) default).1 (L.getD i default).1 = true)
def ndB (d : Dk) (i : Nat) : Prop := (1 ≤ (d.1.getD i default).1 ∧ (d.1.getD i default).1 ≤ d.2.2.2.2.2 - 1) ∧ (0 ≤ (d.1.getD i default).2.2 ∧ (d.1.getD i default).2.2 ≤ (d.1.getD i default).2.1.size) ∧ (0 < i → (d.1.getD (i - 1) default).1 < (d.1.getD i default).1)
def skB (d : Dk) (k : Nat) : Prop := (stepsT d k).2 = true ∧ entsOk d (stepsT d k).1 ∧ (k = d.2.2.2.1.length → (stepsT d k).1 = d.2.1)
theorem spec_l05Entries (d : Dk) (L : List Et) (h : DkOk d) (hl : L.length ≤ 16777216) (hz : ∀ e ∈ L, e.1.size ≤ 1048576) : Fn Tryz.prog 118 [dkP d, .far (L.map enP)] [] (.bool (decide (entsOk d L))) [] := by
  have hNd := fun k => spec_l05Node d k (by have := h.ns; omega)
  have hlast : (∀ i : Nat, i < L.length → entB d L i) → entsOk d L = ((L.length : Int) ≤ 16) := fun h => propext ⟨fun q => by have := q.2; omega, fun q => ⟨h, by omega⟩⟩
  have hno : ∀ i : Nat, i < L.length → ¬ entB d L i → entsOk d L = False := fun i hi h => propext ⟨fun q => h (q.1 i hi), False.elim⟩
  have hB : ∀ i, entB d L i = (nmOk (L.getD i default).1 ∧ 0 ≤ nodeI d.1 (L.getD i default).2 ∧ (0 < i → sLt (L.getD (i - 1) default).1 (L.getD i default).1 = true)) := fun i => rfl
  unfold dkP at *
  refine fn_x tok (n := 50) (rs := [.tmp 4]) Tryz.func118 (by decide) rfl rfl rfl rfl ?_
  refine Wr.go ?_
  repeat' ((first | (have ee := True.intro; refine Wr.mk ?_) | ((first | refine br_go ?_ ?_ | refine pick_go ?_ ?_) <;> intro ee f <;> (try simp only [BB] at f) <;> (try simp only [numOk, verOk] at f))) <;> (try simp (maxSteps := 1000000) (disch := first | omega | (simp only [LN, numOk, verOk, rfP, rvP, rhP, frP, elOk_en, elOk_nd, nfx_en, nfx_nd] <;> omega) | exact Ck.mk rfl) only [ee, VC, T, Nat.reduceMul, Nat.reduceAdd, Nat.reduceSub, Nat.reduceLT, Nat.reduceEqDiff, Nat.reduceLeDiff, Nat.reduceBEq, reduceCtorEq, Int.reduceToNat, ↓reduceIte, rfP, rvP, rhP, frP, elOk_en, elOk_nd, nfx_en, nfx_nd]) <;> (try clear ee))
  refine lp_go (fun i : Nat => ⟨50, [(1, .far (L.map enP)), (2, .ref 192 0), (5, .int .i64 i)], [(192, .box 32 [.far (d.1.map ndP), .far (d.2.1.map enP), .far (d.2.2.1.map enP), .far (d.2.2.2.1.map .str), .int .i64 d.2.2.2.2.1, .int .i64 d.2.2.2.2.2])]⟩) (fun i => i ≤ L.length ∧ ∀ j : Nat, j < i → entB d L j) (fun i => L.length - i) 0 ?_ ⟨Nat.zero_le _, fun j h => by omega⟩ ?_
  · (simp (disch := first | omega | (simp only [LN, numOk, verOk] <;> omega) | exact Ck.mk rfl) only [SB, EQ, Nat.reduceMul, Nat.reduceAdd, Nat.reduceSub, Nat.reduceLT, Nat.reduceEqDiff, Nat.reduceLeDiff, Nat.reduceBEq, reduceCtorEq, Int.reduceToNat, ↓reduceIte]; try omega)
    try rfl
  · rintro i ⟨h1, h2⟩ N hN
    have hg : ∀ j, j < L.length → (L.map enP).getD j .junk = .agg [.str (L.getD j default).1, .int .i64 (L.getD j default).2] := fun j h => by
      rw [List.getD_eq_getElem?_getD, List.getElem?_map, List.getElem?_eq_getElem h, List.getD_eq_getElem?_getD, List.getElem?_eq_getElem h]; rfl
    have hnx : entB d L i → ∀ j : Nat, j < i + 1 → entB d L j := fun h j hj => by
      by_cases e : j = i
      · rw [e]; exact h
      · exact h2 j (by omega)
    have hj : 0 < (i : Int) → ((i : Int) - 1).toNat = i - 1 := fun h => by omega
    by_cases hi : i < L.length
    · have hN1 := spec_NameOk (L.getD i default).1 (by have := hz _ (List.getElem_mem hi); rw [List.getD_eq_getElem?_getD, List.getElem?_eq_getElem hi]; simp only [Option.getD_some]; omega)
      have hno := hno i hi
      have hB := hB i
      unfold sLt at hB
      refine Wr.go ?_
      repeat' ((first | (have ee := True.intro; refine Wr.mk ?_) | ((first | refine br_go ?_ ?_ | refine pick_go ?_ ?_) <;> intro ee f <;> (try simp only [BB] at f) <;> (try simp only [numOk, verOk] at f)) | (have ee := True.intro; first | refine dr_go mixed (id := 4) [([], [1], []), ([], [5], []), ([0, 1], [12, 13], []), ([0, 1, 2], [14], []), ([0, 1, 2, 3], [15], []), ([0, 1, 2, 3, 4], [16], []), ([0, 1, 2, 3, 4, 5], [17], []), ([0, 1, 2, 3, 4, 5, 6], [18], []), ([0, 1, 2, 3, 4, 5, 6, 7], [2, 19], []), ([0, 1, 2, 3, 4, 5, 6, 7], [1, 19], []), ([0, 1, 2, 3, 4, 5, 6, 7], [5, 19], []), ([0, 1, 2, 3, 4, 5, 6, 7, 9, 10], [19, 21, 22], []), ([0, 1, 2, 3, 4, 5, 6, 7, 9, 10, 11], [19, 23], []), ([0, 1, 2, 3, 4, 5, 6, 7, 9, 10, 11, 12], [19, 24], []), ([0, 1, 2, 3, 4, 5, 6, 7, 8, 9, 10, 11, 12, 13], [19, 20, 25], []), ([0, 1, 2, 3, 4, 5, 6, 7, 8, 9, 10, 11, 12, 13, 14], [19, 26], []), ([0, 1, 2, 3, 4, 5, 6, 7, 8, 9, 10, 11, 12, 13, 14, 15], [19, 27], []), ([0, 1, 2, 3, 4, 5, 6, 7, 8, 9, 10, 11, 12, 13, 14, 15, 16], [28], []), ([0, 1, 2, 3, 4, 5, 6, 7, 8, 9, 10, 11, 12, 13, 14, 15, 16, 17], [5, 29], []), ([0, 1, 2, 3, 4, 5, 6, 7, 8, 9, 10, 11, 12, 13, 14, 15, 16, 17, 18], [29, 30], []), ([0, 1, 2, 3, 4, 5, 6, 7, 8, 9, 10, 11, 12, 13, 14, 15, 16, 17, 18, 19], [29, 31], []), ([0, 1, 2, 3, 4, 5, 6, 7, 8, 9, 10, 11, 12, 13, 14, 15, 16, 17, 18, 19, 20], [1, 32], []), ([0, 1, 2, 3, 4, 5, 6, 7, 8, 9, 10, 11, 12, 13, 14, 15, 16, 17, 18, 19, 20], [5, 32], []), ([0, 1, 2, 3, 4, 5, 6, 7, 8, 9, 10, 11, 12, 13, 14, 15, 16, 17, 18, 19, 20, 22], [32, 34], []), ([0, 1, 2, 3, 4, 5, 6, 7, 8, 9, 10, 11, 12, 13, 14, 15, 16, 17, 18, 19, 20, 21, 22, 23], [32, 33, 35], []), ([0, 1, 2, 3, 4, 5, 6, 7, 8, 9, 10, 11, 12, 13, 14, 15, 16, 17, 18, 19, 20, 21, 22, 23, 24], [32, 36], []), ([0, 1, 2, 3, 4, 5, 6, 7, 8, 9, 10, 11, 12, 13, 14, 15, 16, 17, 18, 19, 20, 21, 22, 23, 24, 25], [32, 37], []), ([0, 1, 2, 3, 4, 5, 6, 7, 8, 9, 10, 11, 12, 13, 14, 15, 16, 17, 18, 19, 20], [1, 32], []), ([0, 1, 2, 3, 4, 5, 6, 7, 8, 9, 10, 11, 12, 13, 14, 15, 16, 17, 18, 19, 20], [5, 32], []), ([0, 1, 2, 3, 4, 5, 6, 7, 8, 9, 10, 11, 12, 13, 14, 15, 16, 17, 18, 19, 20, 27, 28], [32, 39, 40], []), ([0, 1, 2, 3, 4, 5, 6, 7, 8, 9, 10, 11, 12, 13, 14, 15, 16, 17, 18, 19, 20, 27, 28, 29], [32, 41], []), ([0, 1, 2, 3, 4, 5, 6, 7, 8, 9, 10, 11, 12, 13, 14, 15, 16, 17, 18, 19, 20, 27, 28, 29, 30], [32, 42], []), ([0, 1, 2, 3, 4, 5, 6, 7, 8, 9, 10, 11, 12, 13, 14, 15, 16, 17, 18, 19, 20, 21, 22, 23, 24, 25, 26, 27, 28, 29, 30, 31], [32, 38, 43], []), ([0, 1, 2, 3, 4, 5, 6, 7, 8, 9, 10, 11, 12, 13, 14, 15, 16, 17, 18, 19, 20, 21, 22, 23, 24, 25, 26, 27, 28, 29, 30, 31, 32], [29, 32, 44], []), ([0, 1, 2, 3, 4, 5, 6, 7, 8, 9, 10, 11, 12, 13, 14, 15, 16, 17, 18, 19, 20, 21, 22, 23, 24, 25, 26, 27, 28, 29, 30, 31, 32, 33], [29, 45], [])] rfl rfl rfl ?_ | refine call_x (hN1) rfl ⟨rfl⟩ ?_ | refine call_x (hNd _) rfl ⟨rfl⟩ ?_)) <;> (try simp (maxSteps := 1000000) (disch := first | omega | (simp only [LN, numOk, verOk, rfP, rvP, rhP, frP, elOk_en, elOk_nd, nfx_en, nfx_nd, hg] <;> omega) | exact Ck.mk rfl) only [ee, VC, T, Nat.reduceMul, Nat.reduceAdd, Nat.reduceSub, Nat.reduceLT, Nat.reduceEqDiff, Nat.reduceLeDiff, Nat.reduceBEq, reduceCtorEq, Int.reduceToNat, ↓reduceIte, rfP, rvP, rhP, frP, elOk_en, elOk_nd, nfx_en, nfx_nd, hg]) <;> (try clear ee))
      · have e := hno (by rw [hB]; rintro ⟨_, q, _⟩; omega)
        simp only [e, decide_false]
      · rename_i g1 g2 g3
        rw [hj g3] at f
        refine hN (i + 1) _ ⟨by omega, hnx (by rw [hB]; exact ⟨g1, g2, fun _ => f⟩)⟩ (by omega) ?_
        (simp (disch := first | omega | (simp only [LN, numOk, verOk] <;> omega) | exact Ck.mk rfl) only [SB, EQ, Nat.reduceMul, Nat.reduceAdd, Nat.reduceSub, Nat.reduceLT, Nat.reduceEqDiff, Nat.reduceLeDiff, Nat.reduceBEq, reduceCtorEq, Int.reduceToNat, ↓reduceIte]; try omega)
        try rfl
      · rename_i g1 g2 g3
        rw [hj g3] at f
        have e := hno (by rw [hB]; rintro ⟨_, _, q⟩; rw [q (by omega)] at f; exact Bool.noConfusion f)
        simp only [e, decide_false]
      · rename_i g1 g2
        refine hN (i + 1) _ ⟨by omega, hnx (by rw [hB]; exact ⟨g1, g2, fun _ => by omega⟩)⟩ (by omega) ?_
        (simp (disch := first | omega | (simp only [LN, numOk, verOk] <;> omega) | exact Ck.mk rfl) only [SB, EQ, Nat.reduceMul, Nat.reduceAdd, Nat.reduceSub, Nat.reduceLT, Nat.reduceEqDiff, Nat.reduceLeDiff, Nat.reduceBEq, reduceCtorEq, Int.reduceToNat, ↓reduceIte]; try omega)
        try rfl
      · have e := hno (by rw [hB]; exact fun q => f q.1)
        simp only [e, decide_false]
    · obtain rfl : i = L.length := by omega
      have hlast := hlast h2
      refine Wr.go ?_
      repeat' ((first | (have ee := True.intro; refine Wr.mk ?_) | ((first | refine br_go ?_ ?_ | refine pick_go ?_ ?_) <;> intro ee f <;> (try simp only [BB] at f) <;> (try simp only [numOk, verOk] at f))) <;> (try simp (maxSteps := 1000000) (disch := first | omega | (simp only [LN, numOk, verOk, rfP, rvP, rhP, frP, elOk_en, elOk_nd, nfx_en, nfx_nd] <;> omega) | exact Ck.mk rfl) only [ee, VC, T, Nat.reduceMul, Nat.reduceAdd, Nat.reduceSub, Nat.reduceLT, Nat.reduceEqDiff, Nat.reduceLeDiff, Nat.reduceBEq, reduceCtorEq, Int.reduceToNat, ↓reduceIte, rfP, rvP, rhP, frP, elOk_en, elOk_nd, nfx_en, nfx_nd]) <;> (try clear ee))
      simp only [hlast]
theorem spec_DiskOk (d : Dk) (h : DkOk d) : Fn Tryz.prog 61 [dkP d] [] (.bool (decide (diskOk d))) [] := by
  have hU := spec_UsedOn d h
  have hSD := fun k hk => spec_StepsDone d.2.2.1 d.2.2.2.1 k h.os h.ss h.st h.ot hk
  have hEn := fun L hl hz => spec_l05Entries d L h hl hz
  have hsg : ∀ k, (stepsT d k).1.length ≤ d.2.2.1.length + (d.2.2.2.1.take k).length ∧ ∀ e ∈ (stepsT d k).1, e.1.size ≤ 1048576 := fun k => sgT_le 1048576 (d.2.2.2.1.take k) d.2.2.1 h.ot (fun s hs => h.st s (List.mem_of_mem_take hs))
  have hst : ∀ k, sgT d.2.2.1 (d.2.2.2.1.take k) = stepsT d k := fun k => rfl
  have hes := h.es
  have hns := h.ns
  have hss := h.ss
  have hos := h.os
  have n1 : ¬ (d.1.length ≤ 64 ∧ (0 ≤ d.2.2.2.2.1 ∧ d.2.2.2.2.1 ≤ 1000000000) ∧ (1 ≤ d.2.2.2.2.2 ∧ d.2.2.2.2.2 ≤ 1000000000) ∧ usedT d ≤ d.2.2.2.2.1) → diskOk d = False := fun q => propext ⟨fun k => q k.1, False.elim⟩
  have n2 : ∀ i : Nat, i < d.1.length → ¬ ndB d i → diskOk d = False := fun i hi q => propext ⟨fun k => q (k.2.1 i hi), False.elim⟩
  have n3 : ∀ i : Nat, i < d.2.2.2.1.length + 1 → ¬ skB d i → diskOk d = False := fun i hi q => propext ⟨fun k => q (k.2.2 i hi), False.elim⟩
  have n4 : (d.1.length ≤ 64 ∧ (0 ≤ d.2.2.2.2.1 ∧ d.2.2.2.2.1 ≤ 1000000000) ∧ (1 ≤ d.2.2.2.2.2 ∧ d.2.2.2.2.2 ≤ 1000000000) ∧ usedT d ≤ d.2.2.2.2.1) → (∀ i : Nat, i < d.1.length → ndB d i) → (∀ i : Nat, i < d.2.2.2.1.length + 1 → skB d i) → diskOk d = True := fun a b c => propext ⟨fun _ => trivial, fun _ => ⟨a, b, c⟩⟩
  have hB1 : ∀ i, ndB d i = ((1 ≤ (d.1.getD i default).1 ∧ (d.1.getD i default).1 ≤ d.2.2.2.2.2 - 1) ∧ (0 ≤ (d.1.getD i default).2.2 ∧ (d.1.getD i default).2.2 ≤ (d.1.getD i default).2.1.size) ∧ (0 < i → (d.1.getD (i - 1) default).1 < (d.1.getD i default).1)) := fun i => rfl
  have hB2 : ∀ k, skB d k = ((stepsT d k).2 = true ∧ entsOk d (stepsT d k).1 ∧ (k = d.2.2.2.1.length → (stepsT d k).1 = d.2.1)) := fun k => rfl
  unfold dkP at *
  refine fn_x tok (n := 113) (rs := [.tmp 2]) Tryz.func61 (by decide) rfl rfl rfl rfl ?_
  refine Wr.go ?_
  repeat' ((first | (have ee := True.intro; refine Wr.mk ?_) | ((first | refine br_go ?_ ?_ | refine pick_go ?_ ?_) <;> intro ee f <;> (try simp only [BB] at f) <;> (try simp only [numOk, verOk] at f)) | (have ee := True.intro; first | refine dr_go mixed (id := 1) [([], [1], []), ([0], [8], []), ([0, 1], [9], []), ([0, 1, 2], [10], []), ([0, 1, 2, 3], [11], []), ([0, 1, 2, 3, 4], [1, 12], []), ([0, 1, 2, 3, 4, 5], [12, 13], []), ([0, 1, 2, 3, 4, 5, 6], [12, 14], []), ([0, 1, 2, 3, 4, 5, 6, 7], [12, 15], []), ([0, 1, 2, 3, 4, 5, 6, 7, 8], [12, 16], []), ([0, 1, 2, 3, 4, 5, 6, 7, 8, 9], [17], []), ([0, 1, 2, 3, 4, 5, 6, 7, 8, 9, 10], [1, 18], []), ([0, 1, 2, 3, 4, 5, 6, 7, 8, 9, 10, 11], [18, 19], []), ([0, 1, 2, 3, 4, 5, 6, 7, 8, 9, 10, 11, 12], [18, 20], []), ([0, 1, 2, 3, 4, 5, 6, 7, 8, 9, 10, 11, 12, 13], [18, 21], []), ([0, 1, 2, 3, 4, 5, 6, 7, 8, 9, 10, 11, 12, 13, 14], [18, 22], []), ([0, 1, 2, 3, 4, 5, 6, 7, 8, 9, 10, 11, 12, 13, 14, 15], [23], []), ([0, 1, 2, 3, 4, 5, 6, 7, 8, 9, 10, 11, 12, 13, 14, 15, 16], [1, 24], []), ([0, 1, 2, 3, 4, 5, 6, 7, 8, 9, 10, 11, 12, 13, 14, 15, 16, 17], [24, 25], []), ([0, 1, 2, 3, 4, 5, 6, 7, 8, 9, 10, 11, 12, 13, 14, 15, 16], [1, 24], []), ([0, 1, 2, 3, 4, 5, 6, 7, 8, 9, 10, 11, 12, 13, 14, 15, 16, 19], [24, 27], []), ([0, 1, 2, 3, 4, 5, 6, 7, 8, 9, 10, 11, 12, 13, 14, 15, 16, 17, 18, 19, 20], [24, 26, 28], []), ([0, 1, 2, 3, 4, 5, 6, 7, 8, 9, 10, 11, 12, 13, 14, 15, 16, 17, 18, 19, 20, 21], [24, 29], [])] rfl rfl rfl ?_ | refine call_x (spec_l01In _ _ _) rfl ⟨rfl⟩ ?_ | refine call_x (hU) rfl ⟨rfl⟩ ?_)) <;> (try simp (maxSteps := 1000000) (disch := first | omega | (simp only [LN, numOk, verOk, rfP, rvP, rhP, frP, elOk_en, elOk_nd, nfx_en, nfx_nd] <;> omega) | exact Ck.mk rfl) only [ee, VC, T, Nat.reduceMul, Nat.reduceAdd, Nat.reduceSub, Nat.reduceLT, Nat.reduceEqDiff, Nat.reduceLeDiff, Nat.reduceBEq, reduceCtorEq, Int.reduceToNat, ↓reduceIte, rfP, rvP, rhP, frP, elOk_en, elOk_nd, nfx_en, nfx_nd]) <;> (try clear ee))
  case' refine_2.refine_1.refine_1.refine_2 =>
    rename_i g1 g2 g3
    have n4 := n4 ⟨by omega, g2, g3, f⟩
    refine lp_go (fun i : Nat => ⟨113, [(1, .ref 128 0), (3, .int .i64 i)], [(128, .box 32 [.far (d.1.map ndP), .far (d.2.1.map enP), .far (d.2.2.1.map enP), .far (d.2.2.2.1.map .str), .int .i64 d.2.2.2.2.1, .int .i64 d.2.2.2.2.2])]⟩) (fun i => i ≤ d.1.length ∧ ∀ j : Nat, j < i → ndB d j) (fun i => d.1.length - i) 0 ?_ ⟨Nat.zero_le _, fun j h => by omega⟩ ?_
    · (simp (disch := first | omega | (simp only [LN, numOk, verOk] <;> omega) | exact Ck.mk rfl) only [SB, EQ, Nat.reduceMul, Nat.reduceAdd, Nat.reduceSub, Nat.reduceLT, Nat.reduceEqDiff, Nat.reduceLeDiff, Nat.reduceBEq, reduceCtorEq, Int.reduceToNat, ↓reduceIte]; try omega)
      try rfl
    · rintro i ⟨h1, h2⟩ N hN
      have hg : ∀ j, j < d.1.length → (d.1.map ndP).getD j .junk = .agg [.int .i64 (d.1.getD j default).1, .str (d.1.getD j default).2.1, .int .i64 (d.1.getD j default).2.2] := fun j h => by
        rw [List.getD_eq_getElem?_getD, List.getElem?_map, List.getElem?_eq_getElem h, List.getD_eq_getElem?_getD, List.getElem?_eq_getElem h]; rfl
      have hnx : ndB d i → ∀ j : Nat, j < i + 1 → ndB d j := fun h j hj => by
        by_cases e : j = i
        · rw [e]; exact h
        · exact h2 j (by omega)
      have hj : ((i : Int) - 1).toNat = i - 1 := by omega
      have hB := hB1 i
      have n2 := n2 i
      by_cases hi : i < d.1.length
      · have n2 := n2 hi
        refine Wr.go ?_
        repeat' ((first | (have ee := True.intro; refine Wr.mk ?_) | ((first | refine br_go ?_ ?_ | refine pick_go ?_ ?_) <;> intro ee f <;> (try simp only [BB] at f) <;> (try simp only [numOk, verOk] at f)) | (have ee := True.intro; first | refine dr_go mixed (id := 7) [([], [4], []), ([0], [43], []), ([], [1], []), ([2], [45], []), ([2, 3], [46], []), ([0, 1, 2, 3, 4], [44, 47], []), ([0, 1, 2, 3, 4, 5], [48], []), ([0, 1, 2, 3, 4, 5, 6], [49], []), ([0, 1, 2, 3, 4, 5, 6, 7], [3, 50], []), ([0, 1, 2, 3, 4, 5, 6, 7, 8], [50, 51], []), ([0, 1, 2, 3, 4, 5, 6, 7, 8, 9], [50, 52], []), ([0, 1, 2, 3, 4, 5, 6, 7, 8, 9, 10], [1, 53], []), ([0, 1, 2, 3, 4, 5, 6, 7, 8, 9, 10, 11], [53, 54], []), ([0, 1, 2, 3, 4, 5, 6, 7, 8, 9, 10], [3, 53], []), ([0, 1, 2, 3, 4, 5, 6, 7, 8, 9, 10, 13], [53, 56], []), ([0, 1, 2, 3, 4, 5, 6, 7, 8, 9, 10, 11, 12, 13, 14], [53, 55, 57], []), ([0, 1, 2, 3, 4, 5, 6, 7, 8, 9, 10, 11, 12, 13, 14, 15], [53, 58], []), ([0, 1, 2, 3, 4, 5, 6, 7, 8, 9, 10, 11, 12, 13, 14, 15, 16], [53, 59], []), ([0, 1, 2, 3, 4, 5, 6, 7, 8, 9, 10], [4, 53], []), ([0, 1, 2, 3, 4, 5, 6, 7, 8, 9, 10, 18], [53, 61], []), ([0, 1, 2, 3, 4, 5, 6, 7, 8, 9, 10, 11, 12, 13, 14, 15, 16, 17, 18, 19], [53, 60, 62], []), ([0, 1, 2, 3, 4, 5, 6, 7, 8, 9, 10, 11, 12, 13, 14, 15, 16, 17, 18, 19, 20], [50, 53, 63], []), ([0, 1, 2, 3, 4, 5, 6, 7, 8, 9, 10, 11, 12, 13, 14, 15, 16, 17, 18, 19, 20, 21], [50, 64], []), ([0, 1, 2, 3, 4, 5, 6, 7, 8, 9, 10, 11, 12, 13, 14, 15, 16, 17, 18, 19, 20, 21, 22], [65], []), ([0, 1, 2, 3, 4, 5, 6, 7, 8, 9, 10, 11, 12, 13, 14, 15, 16, 17, 18, 19, 20, 21, 22, 23], [4, 66], []), ([0, 1, 2, 3, 4, 5, 6, 7, 8, 9, 10, 11, 12, 13, 14, 15, 16, 17, 18, 19, 20, 21, 22, 23, 24], [66, 67], []), ([0, 1, 2, 3, 4, 5, 6, 7, 8, 9, 10, 11, 12, 13, 14, 15, 16, 17, 18, 19, 20, 21, 22, 23], [4, 66], []), ([0, 1, 2, 3, 4, 5, 6, 7, 8, 9, 10, 11, 12, 13, 14, 15, 16, 17, 18, 19, 20, 21, 22, 23, 26], [66, 69], []), ([0, 1, 2, 3, 4, 5, 6, 7, 8, 9, 10, 11, 12, 13, 14, 15, 16, 17, 18, 19, 20, 21, 22, 23, 26, 27], [66, 70], []), ([0, 1, 2, 3, 4, 5, 6, 7, 8, 9, 10, 11, 12, 13, 14, 15, 16, 17, 18, 19, 20, 21, 22, 23, 24, 25, 26, 27, 28], [66, 68, 71], []), ([0, 1, 2, 3, 4, 5, 6, 7, 8, 9, 10, 11, 12, 13, 14, 15, 16, 17, 18, 19, 20, 21, 22, 23, 24, 25, 26, 27, 28, 29], [66, 72], []), ([0, 1, 2, 3, 4, 5, 6, 7, 8, 9, 10, 11, 12, 13, 14, 15, 16, 17, 18, 19, 20, 21, 22, 23, 24, 25, 26, 27, 28, 29, 30], [66, 73], [])] rfl rfl rfl ?_ | refine call_x (spec_l01In _ _ _) rfl ⟨rfl⟩ ?_)) <;> (try simp (maxSteps := 1000000) (disch := first | omega | (simp only [LN, numOk, verOk, rfP, rvP, rhP, frP, elOk_en, elOk_nd, nfx_en, nfx_nd, hg, hj] <;> omega) | exact Ck.mk rfl) only [ee, VC, T, Nat.reduceMul, Nat.reduceAdd, Nat.reduceSub, Nat.reduceLT, Nat.reduceEqDiff, Nat.reduceLeDiff, Nat.reduceBEq, reduceCtorEq, Int.reduceToNat, ↓reduceIte, rfP, rvP, rhP, frP, elOk_en, elOk_nd, nfx_en, nfx_nd, hg, hj]) <;> (try clear ee))
        all_goals first
          | (refine hN (i + 1) _ ⟨by omega, hnx (by rw [hB]; omega)⟩ (by omega) ?_
             (simp (disch := first | omega | (simp only [LN, numOk, verOk] <;> omega) | exact Ck.mk rfl) only [SB, EQ, Nat.reduceMul, Nat.reduceAdd, Nat.reduceSub, Nat.reduceLT, Nat.reduceEqDiff, Nat.reduceLeDiff, Nat.reduceBEq, reduceCtorEq, Int.reduceToNat, ↓reduceIte]; try omega)
             try rfl)
          | (have e := n2 (by rw [hB]; omega)
             simp only [e, decide_false])
      · obtain rfl : i = d.1.length := by omega
        have n4 := n4 h2
        refine Wr.go ?_
        repeat' ((first | (have ee := True.intro; refine Wr.mk ?_) | ((first | refine br_go ?_ ?_ | refine pick_go ?_ ?_) <;> intro ee f <;> (try simp only [BB] at f) <;> (try simp only [numOk, verOk] at f))) <;> (try simp (maxSteps := 1000000) (disch := first | omega | (simp only [LN, numOk, verOk, rfP, rvP, rhP, frP, elOk_en, elOk_nd, nfx_en, nfx_nd] <;> omega) | exact Ck.mk rfl) only [ee, VC, T, Nat.reduceMul, Nat.reduceAdd, Nat.reduceSub, Nat.reduceLT, Nat.reduceEqDiff, Nat.reduceLeDiff, Nat.reduceBEq, reduceCtorEq, Int.reduceToNat, ↓reduceIte, rfP, rvP, rhP, frP, elOk_en, elOk_nd, nfx_en, nfx_nd]) <;> (try clear ee))
        refine lp_go (fun i : Nat => ⟨113, [(1, .ref 128 0), (5, .int .i64 i)], [(128, .box 32 [.far (d.1.map ndP), .far (d.2.1.map enP), .far (d.2.2.1.map enP), .far (d.2.2.2.1.map .str), .int .i64 d.2.2.2.2.1, .int .i64 d.2.2.2.2.2])]⟩) (fun i => i ≤ d.2.2.2.1.length + 1 ∧ ∀ j : Nat, j < i → skB d j) (fun i => d.2.2.2.1.length + 1 - i) 0 ?_ ⟨Nat.zero_le _, fun j h => by omega⟩ ?_
        · (simp (disch := first | omega | (simp only [LN, numOk, verOk] <;> omega) | exact Ck.mk rfl) only [SB, EQ, Nat.reduceMul, Nat.reduceAdd, Nat.reduceSub, Nat.reduceLT, Nat.reduceEqDiff, Nat.reduceLeDiff, Nat.reduceBEq, reduceCtorEq, Int.reduceToNat, ↓reduceIte]; try omega)
          try rfl
        · rintro k ⟨h3, h4⟩ N hN
          have hkx : skB d k → ∀ j : Nat, j < k + 1 → skB d j := fun h j hj => by
            by_cases e : j = k
            · rw [e]; exact h
            · exact h4 j (by omega)
          have n3 := n3 k
          have hB2 := hB2 k
          by_cases hk : k ≤ d.2.2.2.1.length
          · have hS := hSD k (by omega)
            rw [hst] at hS
            have hsg := hsg k
            rw [List.length_take] at hsg
            have n3 := n3 (by omega)
            generalize stepsT d k = p at *
            obtain ⟨L, ok⟩ := p
            simp only at *
            have hE := hEn L (by omega) hsg.2
            have hSm := spec_l06Same L d.2.1 (by omega)
            refine Wr.go ?_
            repeat' ((first | (have ee := True.intro; refine Wr.mk ?_) | ((first | refine br_go ?_ ?_ | refine pick_go ?_ ?_) <;> intro ee f <;> (try simp only [BB] at f) <;> (try simp only [numOk, verOk] at f)) | (have ee := True.intro; first | refine call_x (hS) rfl ⟨rfl⟩ ?_ | refine call_x (hE) rfl ⟨rfl⟩ ?_ | refine call_x (hSm) rfl ⟨rfl⟩ ?_)) <;> (try simp (maxSteps := 1000000) (disch := first | omega | (simp only [LN, numOk, verOk, rfP, rvP, rhP, frP, elOk_en, elOk_nd, nfx_en, nfx_nd] <;> omega) | exact Ck.mk rfl) only [ee, VC, T, Nat.reduceMul, Nat.reduceAdd, Nat.reduceSub, Nat.reduceLT, Nat.reduceEqDiff, Nat.reduceLeDiff, Nat.reduceBEq, reduceCtorEq, Int.reduceToNat, ↓reduceIte, rfP, rvP, rhP, frP, elOk_en, elOk_nd, nfx_en, nfx_nd]) <;> (try clear ee))
            · rename_i g1 g2 g3
              refine hN (k + 1) _ ⟨by omega, hkx (by rw [hB2]; exact ⟨g1, g2, fun _ => f⟩)⟩ (by omega) ?_
              (simp (disch := first | omega | (simp only [LN, numOk, verOk] <;> omega) | exact Ck.mk rfl) only [SB, EQ, Nat.reduceMul, Nat.reduceAdd, Nat.reduceSub, Nat.reduceLT, Nat.reduceEqDiff, Nat.reduceLeDiff, Nat.reduceBEq, reduceCtorEq, Int.reduceToNat, ↓reduceIte]; try omega)
              try rfl
            · rename_i g1 g2 g3
              have e := n3 (by rw [hB2]; rintro ⟨_, _, q⟩; exact f (q (by omega)))
              simp only [e, decide_false]
            · rename_i g1 g2
              refine hN (k + 1) _ ⟨by omega, hkx (by rw [hB2]; exact ⟨g1, g2, fun h => absurd h (by omega)⟩)⟩ (by omega) ?_
              (simp (disch := first | omega | (simp only [LN, numOk, verOk] <;> omega) | exact Ck.mk rfl) only [SB, EQ, Nat.reduceMul, Nat.reduceAdd, Nat.reduceSub, Nat.reduceLT, Nat.reduceEqDiff, Nat.reduceLeDiff, Nat.reduceBEq, reduceCtorEq, Int.reduceToNat, ↓reduceIte]; try omega)
              try rfl
            · have e := n3 (by rw [hB2]; exact fun q => f q.2.1)
              simp only [e, decide_false]
            · have e := n3 (by rw [hB2]; rintro ⟨q, _⟩; rw [f] at q; exact Bool.noConfusion q)
              simp only [e, decide_false]
          · obtain rfl : k = d.2.2.2.1.length + 1 := by omega
            have e := n4 h4
            refine Wr.go ?_
            repeat' ((first | (have ee := True.intro; refine Wr.mk ?_) | ((first | refine br_go ?_ ?_ | refine pick_go ?_ ?_) <;> intro ee f <;> (try simp only [BB] at f) <;> (try simp only [numOk, verOk] at f))) <;> (try simp (maxSteps := 1000000) (disch := first | omega | (simp only [LN, numOk, verOk, rfP, rvP, rhP, frP, elOk_en, elOk_nd, nfx_en, nfx_nd] <;> omega) | exact Ck.mk rfl) only [ee, VC, T, Nat.reduceMul, Nat.reduceAdd, Nat.reduceSub, Nat.reduceLT, Nat.reduceEqDiff, Nat.reduceLeDiff, Nat.reduceBEq, reduceCtorEq, Int.reduceToNat, ↓reduceIte, rfP, rvP, rhP, frP, elOk_en, elOk_nd, nfx_en, nfx_nd]) <;> (try clear ee))
            simp only [e, decide_true]
  all_goals
    have e := n1 (by omega)
    simp only [e, decide_false]
end Go.Pv

/- What functions of the program and of the reference do, in plain values. -/
namespace Go.Pv
open Go.Proofs Go.Mth
set_option linter.unusedSimpArgs false
set_option linter.unusedVariables false
set_option maxHeartbeats 4000000
set_option maxRecDepth 4000

end Go.Pv

/- What functions of the program and of the reference do, in plain values. -/
namespace Go.Pv
open Go.Proofs Go.Mth
set_option linter.unusedSimpArgs false
set_option linter.unusedVariables false
set_option maxHeartbeats 4000000
set_option maxRecDepth 4000

end Go.Pv

/- What functions of the program and of the reference do, in plain values. -/
namespace Go.Pv
open Go.Proofs Go.Mth
set_option linter.unusedSimpArgs false
set_option linter.unusedVariables false
set_option maxHeartbeats 4000000
set_option maxRecDepth 4000

/-- A disk whose rows are one's own, from the key K on. -/
def dkR (K : Nat) (d : Dk) : PV := .agg [.row K d.1.length, .row (K + 1) d.2.1.length, .row (K + 2) d.2.2.1.length, .row (K + 3) d.2.2.2.1.length, .int .i64 d.2.2.2.2.1, .int .i64 d.2.2.2.2.2]
def dkH (d : Dk) : Hp := [(64, .row ⟨3, 0⟩ (d.1.map ndP)), (65, .row ⟨2, 0⟩ (d.2.1.map enP)), (66, .row ⟨2, 0⟩ (d.2.2.1.map enP)), (67, .row ⟨1, 0⟩ (d.2.2.2.1.map .str))]
end Go.Pv

/- What functions of the program and of the reference do, in plain values. -/
namespace Go.Pv
open Go.Proofs Go.Mth
set_option linter.unusedSimpArgs false
set_option linter.unusedVariables false
set_option maxHeartbeats 4000000
set_option maxRecDepth 4000

/-! ### the reference's deeds on disks: copies, nodes that nothing stands for -/
theorem spec_l05Copy_R (d : Dk) (h : DkOk d) : FnE Tryz.prog 93 [dkP d] [] (fun r m => r = dkR 64 d ∧ m = dkH d) := by
  have h1 := h.ns
  have h2 := h.es
  have h3 := h.os
  have h4 := h.ss
  unfold dkP
  refine fn_e tok (n := 24) (rs := [.cell 2 32]) Tryz.func93 (by decide) rfl rfl rfl rfl (low_of rfl) ?_
  refine Wr.go ?_
  repeat' ((first | (have ee := True.intro; refine Wr.mk ?_) | ((first | refine br_go ?_ ?_ | refine pick_go ?_ ?_) <;> intro ee f <;> (try simp only [BB] at f) <;> (try simp only [numOk, verOk] at f))) <;> (try simp (maxSteps := 1000000) (disch := first | omega | (simp only [LN, numOk, verOk, rfP, rvP, rhP, frP, elOk_en, elOk_nd, nfx_en, nfx_nd] <;> omega) | exact Ck.mk rfl) only [ee, VC, T, Nat.reduceMul, Nat.reduceAdd, Nat.reduceSub, Nat.reduceLT, Nat.reduceEqDiff, Nat.reduceLeDiff, Nat.reduceBEq, reduceCtorEq, Int.reduceToNat, ↓reduceIte, rfP, rvP, rhP, frP, elOk_en, elOk_nd, nfx_en, nfx_nd]) <;> (try clear ee))
  exact fin_t [some 256, some 576, some 896, some 1216] (⟨rfl, rfl⟩) rfl (by simp [RV, RV2, RVl, RV1, tau, tget, hget, data1, oneOf, dkR, dkH]) (by simp [RH, RVl, RV1, tau, hget, data1, dkR, dkH]) (by simp [Taus, hget, dkR, dkH])
def usedL (d : Dk) (id : Int) (k : Nat) : Prop := ∃ j : Nat, j < k ∧ ∃ e ∈ (stepsT d j).1, e.2 = id
theorem usedL_all (d : Dk) (id : Int) : usedL d id (d.2.2.2.1.length + 1) ↔ usedB d id := Iff.rfl
theorem usedL_some (d : Dk) (id : Int) (k : Nat) (hk : k ≤ d.2.2.2.1.length + 1) (h : usedL d id k) : usedB d id := by
  obtain ⟨j, h1, h2⟩ := h
  exact ⟨j, by omega, h2⟩
theorem usedL_succ (d : Dk) (id : Int) (k : Nat) : usedL d id (k + 1) ↔ (usedL d id k ∨ ∃ e ∈ (stepsT d k).1, e.2 = id) := by
  constructor
  · rintro ⟨j, h1, h2⟩
    by_cases e : j = k
    · subst e; exact .inr h2
    · exact .inl ⟨j, by omega, h2⟩
  · rintro (⟨j, h1, h2⟩ | h)
    · exact ⟨j, by omega, h2⟩
    · exact ⟨k, by omega, h⟩
theorem ex_snoc (L : List Et) (id : Int) (j : Nat) (h : j < L.length) : (∃ e ∈ L.take (j + 1), e.2 = id) ↔ ((∃ e ∈ L.take j, e.2 = id) ∨ (L.getD j default).2 = id) := by
  rw [take_snoc default L j h]
  have e : rdOf default L j = L.getD j default := rfl
  constructor
  · rintro ⟨x, hx, hi⟩
    rcases List.mem_append.1 hx with hx | hx
    · exact .inl ⟨x, hx, hi⟩
    · rw [List.mem_singleton] at hx; subst hx; exact .inr hi
  · rintro (⟨x, hx, hi⟩ | hi)
    · exact ⟨x, List.mem_append_left _ hx, hi⟩
    · exact ⟨_, List.mem_append_right _ (List.mem_singleton.2 rfl), hi⟩
set_option maxRecDepth 20000 in
theorem spec_l06Clean_R (d : Dk) (h : DkOk d) : FnE Tryz.prog 98 [dkR 0 d] [(0, .row ⟨3, 0⟩ (d.1.map ndP)), (1, .row ⟨2, 0⟩ (d.2.1.map enP)), (2, .row ⟨2, 0⟩ (d.2.2.1.map enP)), (3, .row ⟨1, 0⟩ (d.2.2.2.1.map .str))]
    (fun r m => r = .agg [.row 64 (cleanT d).1.length, .row 1 d.2.1.length, .row 2 d.2.2.1.length, .row 3 d.2.2.2.1.length, .int .i64 d.2.2.2.2.1, .int .i64 d.2.2.2.2.2] ∧ m = [(0, .row ⟨3, 0⟩ (d.1.map ndP)), (1, .row ⟨2, 0⟩ (d.2.1.map enP)), (2, .row ⟨2, 0⟩ (d.2.2.1.map enP)), (3, .row ⟨1, 0⟩ (d.2.2.2.1.map .str)), (64, .row ⟨3, 0⟩ ((cleanT d).1.map ndP))]) := by
  have hSD := fun k hk => spec_StepsDone_R d.2.2.1 d.2.2.2.1 k h.os h.ss h.st h.ot hk
  have hst : ∀ k, sgT d.2.2.1 (d.2.2.2.1.take k) = stepsT d k := fun k => rfl
  have hsg : ∀ k, (stepsT d k).1.length ≤ d.2.2.1.length + (d.2.2.2.1.take k).length ∧ ∀ e ∈ (stepsT d k).1, e.1.size ≤ 1048576 := fun k => sgT_le 1048576 (d.2.2.2.1.take k) d.2.2.1 h.ot (fun s hs => h.st s (List.mem_of_mem_take hs))
  have hns := h.ns
  have hss := h.ss
  have hos := h.os
  have hcl : (cleanT d).1 = d.1.filter fun x => decide (usedB d x.1) := rfl
  simp only [hst] at hSD
  unfold dkR
  refine fn_e tok (n := 71) (rs := [.cell 2 32]) Tryz.func98 (by decide) rfl rfl rfl rfl (low_of rfl) ?_
  refine Wr.go ?_
  repeat' ((first | (have ee := True.intro; refine Wr.mk ?_) | ((first | refine br_go ?_ ?_ | refine pick_go ?_ ?_) <;> intro ee f <;> (try simp only [BB] at f) <;> (try simp only [numOk, verOk] at f))) <;> (try simp (maxSteps := 1000000) (disch := first | omega | (simp only [LN, numOk, verOk, rfP, rvP, rhP, frP, elOk_en, elOk_nd, nfx_en, nfx_nd] <;> omega) | exact Ck.mk rfl) only [ee, VC, T, Nat.reduceMul, Nat.reduceAdd, Nat.reduceSub, Nat.reduceLT, Nat.reduceEqDiff, Nat.reduceLeDiff, Nat.reduceBEq, reduceCtorEq, Int.reduceToNat, ↓reduceIte, rfP, rvP, rhP, frP, elOk_en, elOk_nd, nfx_en, nfx_nd]) <;> (try clear ee))
  refine lp_go (fun i : Nat => ⟨71, [(1, .ref 128 0), (2, .ref 192 0), (3, .row 704 ((d.1.take i).filter fun x => decide (usedB d x.1)).length), (4, .int .i64 i)], [(704, .row ⟨3, 0⟩ (((d.1.take i).filter fun x => decide (usedB d x.1)).map ndP)), (192, .box 32 [.nils, .nils, .nils, .nils, .int .i64 0, .int .i64 0]), (128, .box 32 [.row 0 d.1.length, .row 1 d.2.1.length, .row 2 d.2.2.1.length, .row 3 d.2.2.2.1.length, .int .i64 d.2.2.2.2.1, .int .i64 d.2.2.2.2.2]), (0, .row ⟨3, 0⟩ (d.1.map ndP)), (1, .row ⟨2, 0⟩ (d.2.1.map enP)), (2, .row ⟨2, 0⟩ (d.2.2.1.map enP)), (3, .row ⟨1, 0⟩ (d.2.2.2.1.map .str))]⟩) (fun i => i ≤ d.1.length) (fun i => d.1.length - i) 0 ?_ (Nat.zero_le _) ?_
  · (simp (disch := first | omega | (simp only [LN, numOk, verOk] <;> omega) | exact Ck.mk rfl) only [SB, EQ, Nat.reduceMul, Nat.reduceAdd, Nat.reduceSub, Nat.reduceLT, Nat.reduceEqDiff, Nat.reduceLeDiff, Nat.reduceBEq, reduceCtorEq, Int.reduceToNat, ↓reduceIte]; try omega)
    exact ⟨rfl, rfl⟩
  · intro i hi N hN
    have hsn := flt_snoc (fun x : Nd => decide (usedB d x.1)) d.1 i
    have hfl : ((d.1.take i).filter fun x => decide (usedB d x.1)).length ≤ i := by
      have := List.length_filter_le (fun x : Nd => decide (usedB d x.1)) (d.1.take i)
      rw [List.length_take] at this
      omega
    by_cases hi2 : i < d.1.length
    · have hsn := hsn hi2
      have hg : (d.1.map ndP).getD i .junk = .agg [.int .i64 (d.1.getD i default).1, .str (d.1.getD i default).2.1, .int .i64 (d.1.getD i default).2.2] := by
        rw [List.getD_eq_getElem?_getD, List.getElem?_map, List.getElem?_eq_getElem hi2, List.getD_eq_getElem?_getD, List.getElem?_eq_getElem hi2]; rfl
      have hmap : ∀ M : List Nd, (M ++ [d.1.getD i default]).map ndP = M.map ndP ++ [.agg [.int .i64 (d.1.getD i default).1, .str (d.1.getD i default).2.1, .int .i64 (d.1.getD i default).2.2]] := fun M => by rw [List.map_append]; rfl
      generalize hM : ((d.1.take i).filter fun x => decide (usedB d x.1)) = M at *
      have next : ∀ (u : Bool) (s1 : St), (u = true ↔ usedB d (d.1.getD i default).1) → Sub (⟨71, [(1, .ref 128 0), (2, .ref 192 0), (3, .row 704 (if u = true then M ++ [d.1.getD i default] else M).length), (4, .int .i64 ((i : Int) + 1))], [(704, .row ⟨3, 0⟩ ((if u = true then M ++ [d.1.getD i default] else M).map ndP)), (192, .box 32 [.nils, .nils, .nils, .nils, .int .i64 0, .int .i64 0]), (128, .box 32 [.row 0 d.1.length, .row 1 d.2.1.length, .row 2 d.2.2.1.length, .row 3 d.2.2.2.1.length, .int .i64 d.2.2.2.2.1, .int .i64 d.2.2.2.2.2]), (0, .row ⟨3, 0⟩ (d.1.map ndP)), (1, .row ⟨2, 0⟩ (d.2.1.map enP)), (2, .row ⟨2, 0⟩ (d.2.2.1.map enP)), (3, .row ⟨1, 0⟩ (d.2.2.2.1.map .str))]⟩) s1 → N s1 := fun u s1 hu hs => by
        refine hN (i + 1) s1 (by omega) (by omega) ?_
        rw [hsn]
        have e : (M ++ if decide (usedB d (d.1.getD i default).1) = true then [d.1.getD i default] else []) = if u = true then M ++ [d.1.getD i default] else M := by
          cases u with
          | true => rw [if_pos (decide_eq_true (hu.1 rfl)), if_pos rfl]
          | false => rw [if_neg (by rw [decide_eq_false (fun h => by have := hu.2 h; exact Bool.noConfusion this)]; decide), if_neg (by decide), List.append_nil]
        rw [e]
        exact hs
      clear hN hsn
      refine Wr.go ?_
      repeat' ((first | (have ee := True.intro; refine Wr.mk ?_) | ((first | refine br_go ?_ ?_ | refine pick_go ?_ ?_) <;> intro ee f <;> (try simp only [BB] at f) <;> (try simp only [numOk, verOk] at f))) <;> (try simp (maxSteps := 1000000) (disch := first | omega | (simp only [LN, numOk, verOk, rfP, rvP, rhP, frP, elOk_en, elOk_nd, nfx_en, nfx_nd] <;> omega) | exact Ck.mk rfl) only [ee, VC, T, Nat.reduceMul, Nat.reduceAdd, Nat.reduceSub, Nat.reduceLT, Nat.reduceEqDiff, Nat.reduceLeDiff, Nat.reduceBEq, reduceCtorEq, Int.reduceToNat, ↓reduceIte, rfP, rvP, rhP, frP, elOk_en, elOk_nd, nfx_en, nfx_nd]) <;> (try clear ee))
      refine lp_go (fun x : Nat × Bool => ⟨71, [(1, .ref 128 0), (2, .ref 192 0), (3, .row 704 M.length), (4, .int .i64 i), (5, .bool x.2), (6, .int .i64 x.1)], [(704, .row ⟨3, 0⟩ (M.map ndP)), (192, .box 32 [.nils, .nils, .nils, .nils, .int .i64 0, .int .i64 0]), (128, .box 32 [.row 0 d.1.length, .row 1 d.2.1.length, .row 2 d.2.2.1.length, .row 3 d.2.2.2.1.length, .int .i64 d.2.2.2.2.1, .int .i64 d.2.2.2.2.2]), (0, .row ⟨3, 0⟩ (d.1.map ndP)), (1, .row ⟨2, 0⟩ (d.2.1.map enP)), (2, .row ⟨2, 0⟩ (d.2.2.1.map enP)), (3, .row ⟨1, 0⟩ (d.2.2.2.1.map .str))]⟩) (fun x => x.1 ≤ d.2.2.2.1.length + 1 ∧ (x.2 = true ↔ usedL d (d.1.getD i default).1 x.1)) (fun x => d.2.2.2.1.length + 1 - x.1) (0, false) ?_ ⟨Nat.zero_le _, by simp [usedL]⟩ ?_
      · (simp (disch := first | omega | (simp only [LN, numOk, verOk] <;> omega) | exact Ck.mk rfl) only [SB, EQ, Nat.reduceMul, Nat.reduceAdd, Nat.reduceSub, Nat.reduceLT, Nat.reduceEqDiff, Nat.reduceLeDiff, Nat.reduceBEq, reduceCtorEq, Int.reduceToNat, ↓reduceIte]; try omega)
      · rintro ⟨k, u⟩ ⟨h1, h2⟩ N2 hN2
        simp only at h1 h2 hN2
        have hsc := usedL_succ d (d.1.getD i default).1 k
        by_cases hk : k ≤ d.2.2.2.1.length
        · cases u with
          | true =>
            have hu : usedB d (d.1.getD i default).1 := usedL_some _ _ _ h1 (h2.1 rfl)
            refine Wr.go ?_
            repeat' ((first | (have ee := True.intro; refine Wr.mk ?_) | ((first | refine br_go ?_ ?_ | refine pick_go ?_ ?_) <;> intro ee f <;> (try simp only [BB] at f) <;> (try simp only [numOk, verOk] at f)) | (have ee := True.intro; first | refine dr_go mixed (id := 13) [([], [5], []), ([0], [44], []), ([0, 1], [7, 45], []), ([0, 1], [9, 45], []), ([0, 1, 2, 3], [45, 46, 47], []), ([0, 1, 2, 3, 4], [45, 48], []), ([0, 1, 2, 3, 4, 5], [45, 49], []), ([0, 1], [1, 45], []), ([0, 1, 7], [45, 51], []), ([0, 1], [4, 45], []), ([0, 1, 7, 8, 9], [45, 52, 53], []), ([0, 1, 7, 8, 9, 10], [45, 54], []), ([0, 1, 7, 8, 9, 10, 11], [45, 55], []), ([0, 1, 2, 3, 4, 5, 6, 7, 8, 9, 10, 11, 12], [45, 50, 56], []), ([0, 1, 2, 3, 4, 5, 6, 7, 8, 9, 10, 11, 12, 13], [45, 57], []), ([0, 1, 2, 3, 4, 5, 6, 7, 8, 9, 10, 11, 12, 13, 14], [58], [])] rfl rfl rfl ?_)) <;> (try simp (maxSteps := 1000000) (disch := first | omega | (simp only [LN, numOk, verOk, rfP, rvP, rhP, frP, elOk_en, elOk_nd, nfx_en, nfx_nd, hg] <;> omega) | exact Ck.mk rfl) only [ee, VC, T, Nat.reduceMul, Nat.reduceAdd, Nat.reduceSub, Nat.reduceLT, Nat.reduceEqDiff, Nat.reduceLeDiff, Nat.reduceBEq, reduceCtorEq, Int.reduceToNat, ↓reduceIte, rfP, rvP, rhP, frP, elOk_en, elOk_nd, nfx_en, nfx_nd, hg]) <;> (try clear ee))
            refine next true _ ⟨fun _ => hu, fun _ => rfl⟩ ?_
            rw [if_pos rfl, hmap]
            (simp (disch := first | omega | (simp only [LN, numOk, verOk, List.length_append, List.length_cons, List.length_nil] <;> omega) | exact Ck.mk rfl) only [SB, EQ, Nat.reduceMul, Nat.reduceAdd, Nat.reduceSub, Nat.reduceLT, Nat.reduceEqDiff, Nat.reduceLeDiff, Nat.reduceBEq, reduceCtorEq, Int.reduceToNat, ↓reduceIte, List.length_append, List.length_cons, List.length_nil]; try omega)
          | false =>
            have hS := hSD k hk
            have hsg := hsg k
            rw [List.length_take] at hsg
            generalize stepsT d k = p at *
            obtain ⟨L, ok⟩ := p
            simp only at *
            have hLL : L.length ≤ 2097152 := by have := hsg.1; omega
            refine Wr.go ?_
            repeat' ((first | (have ee := True.intro; refine Wr.mk ?_) | ((first | refine br_go ?_ ?_ | refine pick_go ?_ ?_) <;> intro ee f <;> (try simp only [BB] at f) <;> (try simp only [numOk, verOk] at f)) | (have ee := True.intro; first | (refine call_h [] [2,3] (hS) (by decide) ?_ rfl ?_; (focus (first | rfl | (simp (maxSteps := 1000000) (disch := first | omega | (simp only [LN, numOk, verOk, rfP, rvP, rhP, frP, elOk_en, elOk_nd, nfx_en, nfx_nd] <;> omega) | exact Ck.mk rfl) only [VC, T, Nat.reduceMul, Nat.reduceAdd, Nat.reduceSub, Nat.reduceLT, Nat.reduceEqDiff, Nat.reduceLeDiff, Nat.reduceBEq, reduceCtorEq, Int.reduceToNat, ↓reduceIte, rfP, rvP, rhP, frP, elOk_en, elOk_nd, nfx_en, nfx_nd]; done))); rintro _ _ ⟨rfl, rfl⟩))) <;> (try simp (maxSteps := 1000000) (disch := first | omega | (simp only [LN, numOk, verOk, rfP, rvP, rhP, frP, elOk_en, elOk_nd, nfx_en, nfx_nd] <;> omega) | exact Ck.mk rfl) only [ee, VC, T, Nat.reduceMul, Nat.reduceAdd, Nat.reduceSub, Nat.reduceLT, Nat.reduceEqDiff, Nat.reduceLeDiff, Nat.reduceBEq, reduceCtorEq, Int.reduceToNat, ↓reduceIte, rfP, rvP, rhP, frP, elOk_en, elOk_nd, nfx_en, nfx_nd]) <;> (try clear ee))
            refine lp_go (fun x : Nat × Bool => ⟨71, [(1, .ref 128 0), (2, .ref 192 0), (3, .row 704 M.length), (4, .int .i64 i), (5, .bool x.2), (6, .int .i64 k), (7, .row 2304 L.length), (9, .int .i64 x.1)], [(2304, .row ⟨2, 0⟩ (L.map enP)), (704, .row ⟨3, 0⟩ (M.map ndP)), (192, .box 32 [.nils, .nils, .nils, .nils, .int .i64 0, .int .i64 0]), (128, .box 32 [.row 0 d.1.length, .row 1 d.2.1.length, .row 2 d.2.2.1.length, .row 3 d.2.2.2.1.length, .int .i64 d.2.2.2.2.1, .int .i64 d.2.2.2.2.2]), (0, .row ⟨3, 0⟩ (d.1.map ndP)), (1, .row ⟨2, 0⟩ (d.2.1.map enP)), (2, .row ⟨2, 0⟩ (d.2.2.1.map enP)), (3, .row ⟨1, 0⟩ (d.2.2.2.1.map .str))]⟩) (fun x => x.1 ≤ L.length ∧ (x.2 = true ↔ ∃ e ∈ L.take x.1, e.2 = (d.1.getD i default).1)) (fun x => L.length - x.1) (0, false) ?_ ⟨Nat.zero_le _, by simp⟩ ?_
            · (simp (disch := first | omega | (simp only [LN, numOk, verOk] <;> omega) | exact Ck.mk rfl) only [SB, EQ, Nat.reduceMul, Nat.reduceAdd, Nat.reduceSub, Nat.reduceLT, Nat.reduceEqDiff, Nat.reduceLeDiff, Nat.reduceBEq, reduceCtorEq, Int.reduceToNat, ↓reduceIte]; try omega)
            · rintro ⟨j, v⟩ ⟨h3, h4⟩ N3 hN3
              simp only at h3 h4 hN3
              by_cases hj : j < L.length
              · have hx := ex_snoc L (d.1.getD i default).1 j hj
                have hgl : (L.map enP).getD j .junk = .agg [.str (L.getD j default).1, .int .i64 (L.getD j default).2] := by
                  rw [List.getD_eq_getElem?_getD, List.getElem?_map, List.getElem?_eq_getElem hj, List.getD_eq_getElem?_getD, List.getElem?_eq_getElem hj]; rfl
                cases v with
                | true =>
                  refine Wr.go ?_
                  repeat' ((first | (have ee := True.intro; refine Wr.mk ?_) | ((first | refine br_go ?_ ?_ | refine pick_go ?_ ?_) <;> intro ee f <;> (try simp only [BB] at f) <;> (try simp only [numOk, verOk] at f)) | (have ee := True.intro; first | refine dr_go mixed (id := 13) [([], [5], []), ([0], [44], []), ([0, 1], [7, 45], []), ([0, 1], [9, 45], []), ([0, 1, 2, 3], [45, 46, 47], []), ([0, 1, 2, 3, 4], [45, 48], []), ([0, 1, 2, 3, 4, 5], [45, 49], []), ([0, 1], [1, 45], []), ([0, 1, 7], [45, 51], []), ([0, 1], [4, 45], []), ([0, 1, 7, 8, 9], [45, 52, 53], []), ([0, 1, 7, 8, 9, 10], [45, 54], []), ([0, 1, 7, 8, 9, 10, 11], [45, 55], []), ([0, 1, 2, 3, 4, 5, 6, 7, 8, 9, 10, 11, 12], [45, 50, 56], []), ([0, 1, 2, 3, 4, 5, 6, 7, 8, 9, 10, 11, 12, 13], [45, 57], []), ([0, 1, 2, 3, 4, 5, 6, 7, 8, 9, 10, 11, 12, 13, 14], [58], [])] rfl rfl rfl ?_)) <;> (try simp (maxSteps := 1000000) (disch := first | omega | (simp only [LN, numOk, verOk, rfP, rvP, rhP, frP, elOk_en, elOk_nd, nfx_en, nfx_nd, hg, hgl] <;> omega) | exact Ck.mk rfl) only [ee, VC, T, Nat.reduceMul, Nat.reduceAdd, Nat.reduceSub, Nat.reduceLT, Nat.reduceEqDiff, Nat.reduceLeDiff, Nat.reduceBEq, reduceCtorEq, Int.reduceToNat, ↓reduceIte, rfP, rvP, rhP, frP, elOk_en, elOk_nd, nfx_en, nfx_nd, hg, hgl]) <;> (try clear ee))
                  refine hN3 (j + 1, true) _ ⟨by simp only; omega, ⟨fun _ => hx.2 (.inl (h4.1 rfl)), fun _ => rfl⟩⟩ (by simp only; omega) ?_
                  (simp (disch := first | omega | (simp only [LN, numOk, verOk] <;> omega) | exact Ck.mk rfl) only [SB, EQ, Nat.reduceMul, Nat.reduceAdd, Nat.reduceSub, Nat.reduceLT, Nat.reduceEqDiff, Nat.reduceLeDiff, Nat.reduceBEq, reduceCtorEq, Int.reduceToNat, ↓reduceIte]; try omega)
                | false =>
                  refine Wr.go ?_
                  repeat' ((first | (have ee := True.intro; refine Wr.mk ?_) | ((first | refine br_go ?_ ?_ | refine pick_go ?_ ?_) <;> intro ee f <;> (try simp only [BB] at f) <;> (try simp only [numOk, verOk] at f)) | (have ee := True.intro; first | refine dr_go mixed (id := 13) [([], [5], []), ([0], [44], []), ([0, 1], [7, 45], []), ([0, 1], [9, 45], []), ([0, 1, 2, 3], [45, 46, 47], []), ([0, 1, 2, 3, 4], [45, 48], []), ([0, 1, 2, 3, 4, 5], [45, 49], []), ([0, 1], [1, 45], []), ([0, 1, 7], [45, 51], []), ([0, 1], [4, 45], []), ([0, 1, 7, 8, 9], [45, 52, 53], []), ([0, 1, 7, 8, 9, 10], [45, 54], []), ([0, 1, 7, 8, 9, 10, 11], [45, 55], []), ([0, 1, 2, 3, 4, 5, 6, 7, 8, 9, 10, 11, 12], [45, 50, 56], []), ([0, 1, 2, 3, 4, 5, 6, 7, 8, 9, 10, 11, 12, 13], [45, 57], []), ([0, 1, 2, 3, 4, 5, 6, 7, 8, 9, 10, 11, 12, 13, 14], [58], [])] rfl rfl rfl ?_)) <;> (try simp (maxSteps := 1000000) (disch := first | omega | (simp only [LN, numOk, verOk, rfP, rvP, rhP, frP, elOk_en, elOk_nd, nfx_en, nfx_nd, hg, hgl] <;> omega) | exact Ck.mk rfl) only [ee, VC, T, Nat.reduceMul, Nat.reduceAdd, Nat.reduceSub, Nat.reduceLT, Nat.reduceEqDiff, Nat.reduceLeDiff, Nat.reduceBEq, reduceCtorEq, Int.reduceToNat, ↓reduceIte, rfP, rvP, rhP, frP, elOk_en, elOk_nd, nfx_en, nfx_nd, hg, hgl]) <;> (try clear ee))
                  refine hN3 (j + 1, decide ((L.getD j default).2 = (d.1.getD i default).1)) _ ⟨by simp only; omega, ?_⟩ (by simp only; omega) ?_
                  · simp only
                    rw [decide_eq_true_iff, hx]
                    exact ⟨.inr, fun h => h.resolve_left fun h => absurd (h4.2 h) (by decide)⟩
                  · (simp (disch := first | omega | (simp only [LN, numOk, verOk] <;> omega) | exact Ck.mk rfl) only [SB, EQ, Nat.reduceMul, Nat.reduceAdd, Nat.reduceSub, Nat.reduceLT, Nat.reduceEqDiff, Nat.reduceLeDiff, Nat.reduceBEq, reduceCtorEq, Int.reduceToNat, ↓reduceIte]; try omega)
              · obtain rfl : j = L.length := by omega
                refine Wr.go ?_
                repeat' ((first | (have ee := True.intro; refine Wr.mk ?_) | ((first | refine br_go ?_ ?_ | refine pick_go ?_ ?_) <;> intro ee f <;> (try simp only [BB] at f) <;> (try simp only [numOk, verOk] at f))) <;> (try simp (maxSteps := 1000000) (disch := first | omega | (simp only [LN, numOk, verOk, rfP, rvP, rhP, frP, elOk_en, elOk_nd, nfx_en, nfx_nd] <;> omega) | exact Ck.mk rfl) only [ee, VC, T, Nat.reduceMul, Nat.reduceAdd, Nat.reduceSub, Nat.reduceLT, Nat.reduceEqDiff, Nat.reduceLeDiff, Nat.reduceBEq, reduceCtorEq, Int.reduceToNat, ↓reduceIte, rfP, rvP, rhP, frP, elOk_en, elOk_nd, nfx_en, nfx_nd]) <;> (try clear ee))
                rw [List.take_length] at h4
                refine hN2 (k + 1, v) _ ⟨by simp only; omega, ?_⟩ (by simp only; omega) ?_
                · simp only
                  rw [hsc, h4]
                  exact ⟨.inr, fun h => h.resolve_left fun h => by have := h2.2 h; exact Bool.noConfusion this⟩
                · (simp (disch := first | omega | (simp only [LN, numOk, verOk] <;> omega) | exact Ck.mk rfl) only [SB, EQ, Nat.reduceMul, Nat.reduceAdd, Nat.reduceSub, Nat.reduceLT, Nat.reduceEqDiff, Nat.reduceLeDiff, Nat.reduceBEq, reduceCtorEq, Int.reduceToNat, ↓reduceIte]; try omega)
        · obtain rfl : k = d.2.2.2.1.length + 1 := by omega
          rw [usedL_all] at h2
          cases u with
          | true =>
            refine Wr.go ?_
            repeat' ((first | (have ee := True.intro; refine Wr.mk ?_) | ((first | refine br_go ?_ ?_ | refine pick_go ?_ ?_) <;> intro ee f <;> (try simp only [BB] at f) <;> (try simp only [numOk, verOk] at f)) | (have ee := True.intro; first | refine dr_go mixed (id := 13) [([], [5], []), ([0], [44], []), ([0, 1], [7, 45], []), ([0, 1], [9, 45], []), ([0, 1, 2, 3], [45, 46, 47], []), ([0, 1, 2, 3, 4], [45, 48], []), ([0, 1, 2, 3, 4, 5], [45, 49], []), ([0, 1], [1, 45], []), ([0, 1, 7], [45, 51], []), ([0, 1], [4, 45], []), ([0, 1, 7, 8, 9], [45, 52, 53], []), ([0, 1, 7, 8, 9, 10], [45, 54], []), ([0, 1, 7, 8, 9, 10, 11], [45, 55], []), ([0, 1, 2, 3, 4, 5, 6, 7, 8, 9, 10, 11, 12], [45, 50, 56], []), ([0, 1, 2, 3, 4, 5, 6, 7, 8, 9, 10, 11, 12, 13], [45, 57], []), ([0, 1, 2, 3, 4, 5, 6, 7, 8, 9, 10, 11, 12, 13, 14], [58], [])] rfl rfl rfl ?_)) <;> (try simp (maxSteps := 1000000) (disch := first | omega | (simp only [LN, numOk, verOk, rfP, rvP, rhP, frP, elOk_en, elOk_nd, nfx_en, nfx_nd, hg] <;> omega) | exact Ck.mk rfl) only [ee, VC, T, Nat.reduceMul, Nat.reduceAdd, Nat.reduceSub, Nat.reduceLT, Nat.reduceEqDiff, Nat.reduceLeDiff, Nat.reduceBEq, reduceCtorEq, Int.reduceToNat, ↓reduceIte, rfP, rvP, rhP, frP, elOk_en, elOk_nd, nfx_en, nfx_nd, hg]) <;> (try clear ee))
            refine next true _ h2 ?_
            rw [if_pos rfl, hmap]
            (simp (disch := first | omega | (simp only [LN, numOk, verOk, List.length_append, List.length_cons, List.length_nil] <;> omega) | exact Ck.mk rfl) only [SB, EQ, Nat.reduceMul, Nat.reduceAdd, Nat.reduceSub, Nat.reduceLT, Nat.reduceEqDiff, Nat.reduceLeDiff, Nat.reduceBEq, reduceCtorEq, Int.reduceToNat, ↓reduceIte, List.length_append, List.length_cons, List.length_nil]; try omega)
          | false =>
            refine Wr.go ?_
            repeat' ((first | (have ee := True.intro; refine Wr.mk ?_) | ((first | refine br_go ?_ ?_ | refine pick_go ?_ ?_) <;> intro ee f <;> (try simp only [BB] at f) <;> (try simp only [numOk, verOk] at f)) | (have ee := True.intro; first | refine dr_go mixed (id := 13) [([], [5], []), ([0], [44], []), ([0, 1], [7, 45], []), ([0, 1], [9, 45], []), ([0, 1, 2, 3], [45, 46, 47], []), ([0, 1, 2, 3, 4], [45, 48], []), ([0, 1, 2, 3, 4, 5], [45, 49], []), ([0, 1], [1, 45], []), ([0, 1, 7], [45, 51], []), ([0, 1], [4, 45], []), ([0, 1, 7, 8, 9], [45, 52, 53], []), ([0, 1, 7, 8, 9, 10], [45, 54], []), ([0, 1, 7, 8, 9, 10, 11], [45, 55], []), ([0, 1, 2, 3, 4, 5, 6, 7, 8, 9, 10, 11, 12], [45, 50, 56], []), ([0, 1, 2, 3, 4, 5, 6, 7, 8, 9, 10, 11, 12, 13], [45, 57], []), ([0, 1, 2, 3, 4, 5, 6, 7, 8, 9, 10, 11, 12, 13, 14], [58], [])] rfl rfl rfl ?_)) <;> (try simp (maxSteps := 1000000) (disch := first | omega | (simp only [LN, numOk, verOk, rfP, rvP, rhP, frP, elOk_en, elOk_nd, nfx_en, nfx_nd, hg] <;> omega) | exact Ck.mk rfl) only [ee, VC, T, Nat.reduceMul, Nat.reduceAdd, Nat.reduceSub, Nat.reduceLT, Nat.reduceEqDiff, Nat.reduceLeDiff, Nat.reduceBEq, reduceCtorEq, Int.reduceToNat, ↓reduceIte, rfP, rvP, rhP, frP, elOk_en, elOk_nd, nfx_en, nfx_nd, hg]) <;> (try clear ee))
            refine next false _ h2 ?_
            rw [if_neg (by decide)]
            (simp (disch := first | omega | (simp only [LN, numOk, verOk] <;> omega) | exact Ck.mk rfl) only [SB, EQ, Nat.reduceMul, Nat.reduceAdd, Nat.reduceSub, Nat.reduceLT, Nat.reduceEqDiff, Nat.reduceLeDiff, Nat.reduceBEq, reduceCtorEq, Int.reduceToNat, ↓reduceIte]; try omega)
    · obtain rfl : i = d.1.length := by omega
      rw [List.take_length, ← hcl] at *
      refine Wr.go ?_
      repeat' ((first | (have ee := True.intro; refine Wr.mk ?_) | ((first | refine br_go ?_ ?_ | refine pick_go ?_ ?_) <;> intro ee f <;> (try simp only [BB] at f) <;> (try simp only [numOk, verOk] at f))) <;> (try simp (maxSteps := 1000000) (disch := first | omega | (simp only [LN, numOk, verOk, rfP, rvP, rhP, frP, elOk_en, elOk_nd, nfx_en, nfx_nd] <;> omega) | exact Ck.mk rfl) only [ee, VC, T, Nat.reduceMul, Nat.reduceAdd, Nat.reduceSub, Nat.reduceLT, Nat.reduceEqDiff, Nat.reduceLeDiff, Nat.reduceBEq, reduceCtorEq, Int.reduceToNat, ↓reduceIte, rfP, rvP, rhP, frP, elOk_en, elOk_nd, nfx_en, nfx_nd]) <;> (try clear ee))
      exact fin_t [some 704] (⟨rfl, rfl⟩) rfl (by simp [RV, RV2, RVl, RV1, tau, tget, hget, data1, oneOf]) (by simp [RH, RVl, RV1, tau, hget, data1]) (by simp [Taus, hget])
end Go.Pv
