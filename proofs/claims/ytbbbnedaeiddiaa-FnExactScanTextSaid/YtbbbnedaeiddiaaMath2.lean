/- Plain mathematics for this seat's laws, second part: numbers read from bytes, heads, frames, scans. No program in it.
   Conditions: none beyond those that each lemma names. -/
import Derived.Test.YtbbbnedaeiddiaaMath
namespace Go.Proofs.Ytbbbnedaeiddiaa.Mth
open Go.RowKit Go.Proofs.YtbbbnedaeiddiaaW.PrintWords Go.Proofs.YtbbbnedaeiddiaaW.PrintLast Go.Proofs.YtbbbnedaeiddiaaW.PrintMore
set_option linter.unusedVariables false
set_option linter.unusedSimpArgs false

/-! ### texts and their numbers -/
theorem bytesOf_length (t : ByteArray) : (bytesOf t).length = t.size := by
  unfold bytesOf
  rw [List.length_map, Array.length_toList]
  rfl
theorem bytesOf_range (t : ByteArray) : ∀ x ∈ bytesOf t, 0 ≤ x ∧ x ≤ 255 := by
  intro x hx
  obtain ⟨u, _, rfl⟩ := List.mem_map.1 hx
  have := u.toNat_lt
  omega
theorem bytesOf_append (a b : ByteArray) : bytesOf (a ++ b) = bytesOf a ++ bytesOf b := by
  unfold bytesOf
  rw [ByteArray.data_append, Array.toList_append, List.map_append]
theorem bytesOf_extract (t : ByteArray) (i j : Nat) : bytesOf (t.extract i j) = ((bytesOf t).take j).drop i := by
  unfold bytesOf
  rw [ByteArray.data_extract, Array.toList_extract, List.extract_eq_take_drop, ← List.map_take, ← List.map_drop, List.drop_take]
theorem bytesOf_strOf (l : List Int) (h : ∀ x ∈ l, 0 ≤ x ∧ x ≤ 255) : bytesOf (strOfNums l) = l := by
  unfold bytesOf strOfNums
  rw [List.map_map]
  refine (List.map_congr_left (fun x hx => ?_)).trans (List.map_id l)
  have := h x hx
  simp only [Function.comp, id]
  rw [UInt8.toNat_ofNat']
  omega
theorem strOf_bytesOf (t : ByteArray) : strOfNums (bytesOf t) = t := by
  unfold bytesOf strOfNums
  rw [List.map_map]
  have e : t.data.toList.map ((fun n : Int => UInt8.ofNat n.toNat) ∘ fun b : UInt8 => (b.toNat : Int)) = t.data.toList := by
    refine (List.map_congr_left (fun x hx => ?_)).trans (List.map_id _)
    simp only [Function.comp, Int.toNat_natCast, id]
    exact UInt8.ofNat_toNat
  rw [e]
theorem bytesOf_inj {a b : ByteArray} (h : bytesOf a = bytesOf b) : a = b := by
  rw [← strOf_bytesOf a, ← strOf_bytesOf b, h]
theorem bt_rd (t : ByteArray) (i : Int) : bt t i = rd (bytesOf t) i := (rd_bytesOf t i).symm

theorem pow_mono (a : Nat) (ha : 0 < a) {i j : Nat} (h : i ≤ j) : ((a : Int)) ^ i ≤ (a : Int) ^ j := by
  have := Nat.pow_le_pow_right ha h
  exact_mod_cast this
theorem bnt {p : Prop} [Decidable p] (h : ¬ p) : (!decide p) = true := by simp [h]
theorem bnf {p : Prop} [Decidable p] (h : p) : ¬ (!decide p) = true := by simp [h]

/-! ### joining bits -/
theorem wr63 (n : Int) (h0 : 0 ≤ n) (h1 : n < 2 ^ 63) : IntKind.i64.wrap n = n := by rw [IntKind.wrap_i64]; omega
theorem or_comm64 (a b : Int) : Go.bits .or .i64 a b = Go.bits .or .i64 b a := by
  have h : ∀ x y : Int, Go.bits .or .i64 x y = IntKind.i64.wrap ((BitVec.ofInt 64 x ||| BitVec.ofInt 64 y).toNat : Int) := fun _ _ => rfl
  rw [h, h, BitVec.or_comm]
/-- A part below 2^i and one above it. -/
theorem or_low (i : Nat) (n h : Int) (hn0 : 0 ≤ n) (hn : n < 2 ^ i) (hh0 : 0 ≤ h) (hh : h * 2 ^ i < 2 ^ 63) (hi : i ≤ 62) : Go.bits .or .i64 n (h * 2 ^ i) = n + h * 2 ^ i := by
  rw [or_comm64]
  have hp : (2 : Int) ^ i ≤ 2 ^ 62 := by exact_mod_cast Nat.pow_le_pow_right (by decide : 0 < 2) hi
  rw [bits_join .i64 63 (by decide) wr63 i (h * 2 ^ i) n (Int.mul_nonneg hh0 (Int.pow_nonneg (by decide))) (Int.mul_emod_left _ _) hh hn0 hn (by omega)]
  omega
theorem or_high (n x : Int) (hn0 : 0 ≤ n) (hx0 : 0 ≤ x) (hx : x < 256) (hn : n * 256 < 2 ^ 63) : Go.bits .or .i64 (n * 256) x = n * 256 + x := by
  have := or_low 8 x n hx0 (by omega) hn0 (by omega) (by decide)
  rw [or_comm64]
  rw [show (2 : Int) ^ 8 = 256 by decide] at this
  rw [this]
  omega
theorem shl7 (x : Int) (i : Nat) (hi : i ≤ 4) (hx0 : 0 ≤ x) (hx : x < 128) : shl .i64 x (7 * (i : Int)) = x * 2 ^ (7 * i) := by
  unfold shl
  rw [show (7 * (i : Int)).toNat = 7 * i by omega, show IntKind.bits .i64 = 64 from rfl, Nat.min_eq_left (by omega)]
  have h2 : (2 : Int) ^ (7 * i) ≤ 2 ^ 28 := by exact_mod_cast Nat.pow_le_pow_right (by decide : 0 < 2) (by omega : 7 * i ≤ 28)
  have h3 : (0 : Int) ≤ 2 ^ (7 * i) := Int.pow_nonneg (by decide)
  have h4 : x * 2 ^ (7 * i) ≤ 127 * 2 ^ 28 := Int.mul_le_mul (by omega) h2 h3 (by decide)
  exact wr63 _ (Int.mul_nonneg hx0 h3) (by omega)
theorem shl8 (x : Int) (i : Nat) (hi : i ≤ 6) (hx0 : 0 ≤ x) (hx : x < 256) : shl .i64 x (8 * (i : Int)) = x * 2 ^ (8 * i) := by
  unfold shl
  rw [show (8 * (i : Int)).toNat = 8 * i by omega, show IntKind.bits .i64 = 64 from rfl, Nat.min_eq_left (by omega)]
  have h2 : (2 : Int) ^ (8 * i) ≤ 2 ^ 48 := by exact_mod_cast Nat.pow_le_pow_right (by decide : 0 < 2) (by omega : 8 * i ≤ 48)
  have h3 : (0 : Int) ≤ 2 ^ (8 * i) := Int.pow_nonneg (by decide)
  have h4 : x * 2 ^ (8 * i) ≤ 255 * 2 ^ 48 := Int.mul_le_mul (by omega) h2 h3 (by decide)
  exact wr63 _ (Int.mul_nonneg hx0 h3) (by omega)
/-- The eighth byte: as it is where its top bit is clear, and below 0 where it is set. -/
theorem or_top (n x : Int) (hn0 : 0 ≤ n) (hn : n < 2 ^ 56) (hx0 : 0 ≤ x) (hx : x < 256) :
    Go.bits .or .i64 n (shl .i64 x 56) = if x < 128 then n + x * 2 ^ 56 else n + x * 2 ^ 56 - 2 ^ 64 := by
  obtain ⟨a, rfl⟩ := Int.eq_ofNat_of_zero_le hn0
  obtain ⟨c, rfl⟩ := Int.eq_ofNat_of_zero_le hx0
  have hs : shl .i64 (c : Int) 56 = IntKind.i64.wrap ((c * 2 ^ 56 : Nat) : Int) := by
    unfold shl
    rw [show (56 : Int).toNat = 56 by decide, show IntKind.bits .i64 = 64 from rfl, Nat.min_eq_left (by decide)]
    congr 1
  have h1 : BitVec.ofInt 64 (shl .i64 (c : Int) 56) = BitVec.ofNat 64 (c * 2 ^ 56) := by
    rw [hs, IntKind.wrap_i64]
    apply BitVec.eq_of_toNat_eq
    rw [BitVec.toNat_ofInt, BitVec.toNat_ofNat]
    omega
  have h : Go.bits .or .i64 (a : Int) (shl .i64 (c : Int) 56) = IntKind.i64.wrap ((BitVec.ofInt 64 (a : Int) ||| BitVec.ofInt 64 (shl .i64 (c : Int) 56)).toNat : Int) := rfl
  rw [h, h1, BitVec.ofInt_natCast, BitVec.toNat_or, BitVec.toNat_ofNat, BitVec.toNat_ofNat, Nat.mod_eq_of_lt (by omega), Nat.mod_eq_of_lt (by omega), Nat.or_comm, Nat.mul_comm c,
    ← Nat.two_pow_add_eq_or_of_lt (by omega : a < 2 ^ 56) c, IntKind.wrap_i64]
  split <;> omega

/-! ### numbers read from so many bytes -/
/-- The number of these bytes, the lowest first. -/
def le : List Int → Int
  | [] => 0
  | x :: l => x + 256 * le l
theorem le_range : ∀ (l : List Int), (∀ x ∈ l, 0 ≤ x ∧ x ≤ 255) → 0 ≤ le l ∧ le l < 256 ^ l.length
  | [], _ => by simp [le]
  | x :: l, h => by
    have h1 := h x (by simp)
    have h2 := le_range l (fun y hy => h y (by simp [hy]))
    simp only [le, List.length_cons, Int.pow_succ]
    omega
theorem le_snoc : ∀ (l : List Int) (x : Int), le (l ++ [x]) = le l + x * 256 ^ l.length
  | [], x => by simp [le]
  | y :: l, x => by
    simp only [List.cons_append, le, List.length_cons, Int.pow_succ, le_snoc l x]
    rw [Int.mul_add, Int.mul_left_comm (256 : Int) x, Int.mul_comm (256 : Int) (256 ^ l.length)]
    omega
theorem le_fixL : ∀ (d : Nat) (n : Int), 0 ≤ n → n < 256 ^ d → le (fixL d n) = n
  | 0, n, h0, h1 => by simp [fixL, le] at *; omega
  | d + 1, n, h0, h1 => by
    have hp : n / 256 < 256 ^ d := by rw [Int.pow_succ] at h1; omega
    simp only [fixL, le, le_fixL d (n / 256) (by omega) hp]
    omega
theorem fixL_range : ∀ (d : Nat) (n : Int), ∀ x ∈ fixL d n, 0 ≤ x ∧ x ≤ 255
  | 0, n, x, h => by simp [fixL] at h
  | d + 1, n, x, h => by
    rcases List.mem_cons.1 h with rfl | h
    · omega
    · exact fixL_range d _ x h
theorem bytesOf_fixT (n w : Int) (h0 : 0 ≤ n) (h1 : 1 ≤ w) (h8 : w ≤ 8) (hn : n < 256 ^ w.toNat) : bytesOf (fixT n w) = fixL w.toNat n := by
  unfold fixT
  rw [if_neg (by
    have : n / 256 ^ w.toNat = 0 := Int.ediv_eq_zero_of_lt h0 hn
    omega), bytesOf_strOf _ (fixL_range _ _)]
/-- The bytes of a text from a place on, so many. -/
def seg (b : ByteArray) (a n : Nat) : List Int := ((bytesOf b).drop a).take n
theorem seg_length (b : ByteArray) (a n : Nat) (h : a + n ≤ b.size) : (seg b a n).length = n := by
  unfold seg
  rw [List.length_take, List.length_drop, bytesOf_length]
  omega
theorem seg_range (b : ByteArray) (a n : Nat) : ∀ x ∈ seg b a n, 0 ≤ x ∧ x ≤ 255 := fun x hx => bytesOf_range b x (List.mem_of_mem_drop (List.mem_of_mem_take hx))
theorem seg_snoc (b : ByteArray) (a n : Nat) (h : a + n < b.size) : seg b a (n + 1) = seg b a n ++ [bt b ((a + n : Nat) : Int)] := by
  unfold seg
  have hl : n < ((bytesOf b).drop a).length := by rw [List.length_drop, bytesOf_length]; omega
  have hl2 : a + n < (bytesOf b).length := by rw [bytesOf_length]; omega
  rw [List.take_succ_eq_append_getElem hl, bt_rd, rd_get _ _ hl2, List.getElem_drop]
theorem seg_cons (b : ByteArray) (a n : Nat) (h : a < b.size) : seg b a (n + 1) = bt b (a : Int) :: seg b (a + 1) n := by
  unfold seg
  have hl2 : a < (bytesOf b).length := by rw [bytesOf_length]; omega
  rw [List.drop_eq_getElem_cons hl2, List.take_succ_cons, bt_rd, rd_get _ _ hl2]
theorem extract_seg (b : ByteArray) (a n : Nat) : bytesOf (b.extract a (a + n)) = seg b a n := by
  unfold seg
  rw [bytesOf_extract, List.drop_take]
  congr 1
  omega
theorem seg_mid (x t y : ByteArray) : seg (x ++ t ++ y) x.size t.size = bytesOf t := by
  unfold seg
  rw [bytesOf_append, bytesOf_append, List.append_assoc, List.drop_left' (bytesOf_length x), List.take_left' (bytesOf_length t)]
def rfix (b : ByteArray) (a w : Int) : Int × Bool :=
  if (1 ≤ w ∧ w ≤ 8) ∧ 0 ≤ a ∧ a ≤ b.size - w then (if le (seg b a.toNat w.toNat) < 2 ^ 63 then (le (seg b a.toNat w.toNat), true) else (0, false)) else (0, false)
theorem rfix_range (b : ByteArray) (a w : Int) : 0 ≤ (rfix b a w).1 ∧ (rfix b a w).1 < 2 ^ 63 := by
  unfold rfix
  split
  · split
    · exact ⟨(le_range _ (seg_range _ _ _)).1, by assumption⟩
    · exact ⟨by decide, by decide⟩
  · exact ⟨by decide, by decide⟩
theorem rfix_mid (x t y : ByteArray) (n w : Int) (h0 : 0 ≤ n) (h1 : 1 ≤ w) (h8 : w ≤ 8) (hn : n < 256 ^ w.toNat) (hn2 : n < 2 ^ 63) (ht : t = fixT n w) : rfix (x ++ t ++ y) x.size w = (n, true) := by
  subst ht
  have hs := fixT_size n w h0 h1 h8 hn
  have e : seg (x ++ fixT n w ++ y) (x.size : Int).toNat w.toNat = fixL w.toNat n := by
    have := seg_mid x (fixT n w) y
    rw [hs, bytesOf_fixT n w h0 h1 h8 hn] at this
    exact this
  unfold rfix
  rw [e, le_fixL _ _ h0 hn, if_pos (by
    rw [ByteArray.size_append, ByteArray.size_append, hs]
    omega), if_pos hn2]
end Go.Proofs.Ytbbbnedaeiddiaa.Mth
