/- Plain mathematics for this seat's laws: rounds, sums of 32 bits, numbers in bytes. No program in it.
   Conditions: none beyond those that each lemma names. -/
import Derived.Test.YtbbbnedaeiddiaaVMore
namespace Go.Proofs.Ytbbbnedaeiddiaa.Mth
open Go.RowKit Go.Proofs.YtbbbnedaeiddiaaW.PrintWords Go.Proofs.YtbbbnedaeiddiaaW.PrintLast Go.Proofs.YtbbbnedaeiddiaaW.PrintMore
set_option linter.unusedVariables false
set_option linter.unusedSimpArgs false

/-! ### rounds -/
theorem ev_pos {α : Type} {c : Prop} [Decidable c] {A B : Nat → Option α} {r : α} (h : c) (H : Ev A r) : Ev (fun k => if c then A k else B k) r := by
  obtain ⟨K, hK⟩ := H
  exact ⟨K, fun k hk => (if_pos h).trans (hK k hk)⟩
theorem ev_neg {α : Type} {c : Prop} [Decidable c] {A B : Nat → Option α} {r : α} (h : ¬ c) (H : Ev B r) : Ev (fun k => if c then A k else B k) r := by
  obtain ⟨K, hK⟩ := H
  exact ⟨K, fun k hk => (if_neg h).trans (hK k hk)⟩
theorem ev_ite {α : Type} {c : Prop} [Decidable c] {A B : Nat → Option α} {r : α} (h : c → Ev A r) (h' : ¬ c → Ev B r) : Ev (fun k => if c then A k else B k) r := by
  by_cases e : c
  · exact ev_pos e (h e)
  · exact ev_neg e (h' e)
theorem ev_now {α β : Type} {x : Option α} {a : α} {f : Nat → α → Option β} {r : β} (h : x = some a) (H : Ev (fun k => f k a) r) : Ev (fun k => x.bind (f k)) r := by
  obtain ⟨K, hK⟩ := H
  exact ⟨K, fun k hk => by rw [h]; exact hK k hk⟩
theorem ev_eq {α : Type} {a r : α} (h : a = r) : Ev (fun _ => some a) r := ⟨0, fun _ _ => by rw [h]⟩
theorem ev_cast {α : Type} {g : Nat → Option α} {a r : α} (h : a = r) (H : Ev g a) : Ev g r := h ▸ H

theorem nd {p : Prop} [Decidable p] (h : ¬ decide p = true) : ¬ p := fun hp => h (decide_eq_true hp)

/-! ### whole numbers -/
theorem w64 {x : Int} (h0 : -9223372036854775808 ≤ x) (h1 : x ≤ 9223372036854775807) : wrap64 x = x := by unfold wrap64; omega
theorem wf64 {x : Int} (h : (Lit.int .i64 x).wf = true) : -9223372036854775808 ≤ x ∧ x ≤ 9223372036854775807 := by
  simpa [Lit.wf, IntKind.min, IntKind.max, IntKind.signed, IntKind.bits] using h
theorem wf8 {x : Int} (h : (Lit.int .u8 x).wf = true) : 0 ≤ x ∧ x ≤ 255 := by
  simpa [Lit.wf, IntKind.min, IntKind.max, IntKind.signed, IntKind.bits] using h
theorem wr64 (n : Int) (h0 : 0 ≤ n) (h1 : n < 2 ^ 32) : IntKind.i64.wrap n = n := by rw [IntKind.wrap_i64]; omega
theorem wr32 (n : Int) (h0 : 0 ≤ n) (h1 : n < 2 ^ 32) : IntKind.u32.wrap n = n := by rw [IntKind.wrap_u32]; omega
theorem xor_nat (k : IntKind) (hj : 32 ≤ k.bits) (hk : ∀ n : Int, 0 ≤ n → n < 2 ^ 32 → k.wrap n = n) (a b : Nat) (ha : a < 4294967296) (hb : b < 4294967296) :
    Go.bits .xor k a b = ((a ^^^ b : Nat) : Int) := by
  have hp : 2 ^ 32 ≤ 2 ^ k.bits := Nat.pow_le_pow_right (by decide) hj
  have ha' : a % 2 ^ k.bits = a := Nat.mod_eq_of_lt (by omega)
  have hb' : b % 2 ^ k.bits = b := Nat.mod_eq_of_lt (by omega)
  simp only [Go.bits, BitVec.ofInt_natCast, BitVec.toNat_xor, BitVec.toNat_ofNat, ha', hb']
  have h1 : a ^^^ b < 2 ^ 32 := Nat.xor_lt_two_pow (by omega) (by omega)
  exact hk _ (Int.natCast_nonneg _) (by exact_mod_cast h1)
theorem xor64 (a b : Nat) (ha : a < 4294967296) (hb : b < 4294967296) : Go.bits .xor .i64 a b = ((a ^^^ b : Nat) : Int) := xor_nat .i64 (by decide) wr64 a b ha hb
theorem xor32 (a b : Nat) (ha : a < 4294967296) (hb : b < 4294967296) : Go.bits .xor .u32 a b = ((a ^^^ b : Nat) : Int) := xor_nat .u32 (by decide) wr32 a b ha hb
theorem and_mask64 (s : Int) (i : Nat) (hi : i ≤ 32) : Go.bits .and .i64 s (2 ^ i - 1) = s % 2 ^ i := by
  have hpos : 0 < 2 ^ i := Nat.two_pow_pos i
  have hc : ((2 : Int) ^ i - 1) = ((2 ^ i - 1 : Nat) : Int) := by rw [Int.natCast_sub hpos]; simp
  have hle : 2 ^ i ≤ 2 ^ 32 := Nat.pow_le_pow_right (by decide) hi
  have hm : (2 ^ i - 1) % 2 ^ 64 = 2 ^ i - 1 := Nat.mod_eq_of_lt (by omega)
  have hd : ((s % ((2 ^ 64 : Nat) : Int)).toNat % 2 ^ i : Nat) = (s % ((2 ^ i : Nat) : Int)) := by
    have h1 : ((s % ((2 ^ 64 : Nat) : Int)).toNat : Int) = s % ((2 ^ 64 : Nat) : Int) := Int.toNat_of_nonneg (Int.emod_nonneg _ (by decide))
    rw [Int.natCast_emod, h1]
    exact Int.emod_emod_of_dvd _ (by exact_mod_cast Nat.pow_dvd_pow 2 (by omega : i ≤ 64))
  have e : ((BitVec.ofInt 64 s &&& BitVec.ofInt 64 (2 ^ i - 1)).toNat : Int) = s % ((2 ^ i : Nat) : Int) := by
    rw [hc, BitVec.ofInt_natCast, BitVec.toNat_and, BitVec.toNat_ofNat, hm, Nat.and_two_pow_sub_one_eq_mod, BitVec.toNat_ofInt]
    exact hd
  have h0 : 0 ≤ s % ((2 ^ i : Nat) : Int) := Int.emod_nonneg _ (by exact_mod_cast (by omega : 2 ^ i ≠ 0))
  have h1 : s % ((2 ^ i : Nat) : Int) < ((2 ^ i : Nat) : Int) := Int.emod_lt_of_pos _ (by exact_mod_cast hpos)
  have h2 : ((2 ^ i : Nat) : Int) ≤ ((2 ^ 32 : Nat) : Int) := by exact_mod_cast hle
  have h3 : IntKind.i64.wrap (s % ((2 ^ i : Nat) : Int)) = s % ((2 ^ i : Nat) : Int) := wr64 _ h0 (by omega)
  have h4 : Go.bits .and .i64 s (2 ^ i - 1) = IntKind.i64.wrap ((BitVec.ofInt 64 s &&& BitVec.ofInt 64 (2 ^ i - 1)).toNat : Int) := rfl
  rw [h4, e, h3]
  simp
theorem and_all (s : Int) : Go.bits .and .i64 s 4294967295 = s % 4294967296 := and_mask64 s 32 (by decide)
theorem and_255 (s : Int) : Go.bits .and .i64 s 255 = s % 256 := and_mask64 s 8 (by decide)
theorem and_127 (s : Int) : Go.bits .and .i64 s 127 = s % 128 := and_mask64 s 7 (by decide)
theorem and_1 (s : Int) : Go.bits .and .i64 s 1 = s % 2 := and_mask64 s 1 (by decide)
theorem and32_1 (n : Nat) (hn : n < 4294967296) : Go.bits .and .u32 n 1 = ((n % 2 : Nat) : Int) := by
  have h := (bits_nat .u32 32 (by decide) wr32 n 1 hn (by decide)).1
  rw [show ((1 : Nat) : Int) = 1 from rfl] at h
  rw [h, Nat.and_one_is_mod]

/-! ### sums of 32 bits -/
def stp (n : Nat) : Nat := if n % 2 = 1 then (n / 2) ^^^ 2197175160 else n / 2
def stps : Nat → Nat → Nat
  | 0, n => n
  | d + 1, n => stps d (stp n)
/-- A sum behind a byte. -/
def sb (s b : Nat) : Nat := stps 8 (s ^^^ b)
def sm (s : Nat) (l : List Nat) : Nat := l.foldl sb s
theorem xlt {a b : Nat} (ha : a < 4294967296) (hb : b < 4294967296) : a ^^^ b < 4294967296 := by
  have := Nat.xor_lt_two_pow (n := 32) (x := a) (y := b) (by omega) (by omega)
  omega
theorem stp_lt {n : Nat} (h : n < 4294967296) : stp n < 4294967296 := by
  unfold stp
  split
  · exact xlt (by omega) (by decide)
  · omega
theorem stps_lt : ∀ (d : Nat) {n : Nat}, n < 4294967296 → stps d n < 4294967296
  | 0, _, h => h
  | d + 1, _, h => stps_lt d (stp_lt h)
theorem sb_lt {s b : Nat} (hs : s < 4294967296) (hb : b < 4294967296) : sb s b < 4294967296 := stps_lt 8 (xlt hs hb)
theorem sm_lt : ∀ (l : List Nat) {s : Nat}, s < 4294967296 → (∀ x ∈ l, x < 256) → sm s l < 4294967296
  | [], _, h, _ => h
  | x :: l, s, h, hl => sm_lt l (s := sb s x) (sb_lt h (by have := hl x (by simp); omega)) (fun y hy => hl y (by simp [hy]))

/-! ### texts as lists of numbers -/
def bl (t : ByteArray) : List Nat := t.data.toList.map UInt8.toNat
theorem bl_length (t : ByteArray) : (bl t).length = t.size := by
  unfold bl
  rw [List.length_map, Array.length_toList]
  rfl
theorem bl_lt (t : ByteArray) : ∀ x ∈ bl t, x < 256 := by
  intro x hx
  obtain ⟨u, _, rfl⟩ := List.mem_map.1 hx
  exact u.toNat_lt
theorem bt_bl (t : ByteArray) (i : Nat) (h : i < t.size) : bt t (i : Int) = ((bl t).getD i 0 : Int) := by
  unfold bt
  rw [dif_pos (by simpa using h)]
  have hl : i < (bl t).length := by rw [bl_length]; exact h
  rw [List.getD_eq_getElem?_getD, List.getElem?_eq_getElem hl]
  simp only [bl, List.getElem_map, ByteArray.getElem_eq_getElem_data, Int.toNat_natCast, Option.getD_some, Array.getElem_toList]
theorem bl_drop (t : ByteArray) (i : Nat) (h : i < t.size) : (bl t).drop i = (bl t).getD i 0 :: (bl t).drop (i + 1) := by
  have hl : i < (bl t).length := by rw [bl_length]; exact h
  rw [List.drop_eq_getElem_cons hl, List.getD_eq_getElem?_getD, List.getElem?_eq_getElem hl]
  rfl
theorem bl_getD_lt (t : ByteArray) (i : Nat) : (bl t).getD i 0 < 256 := by
  rcases Nat.lt_or_ge i (bl t).length with h | h
  · rw [List.getD_eq_getElem?_getD, List.getElem?_eq_getElem h]
    exact bl_lt t _ (List.getElem_mem h)
  · rw [List.getD_eq_getElem?_getD, List.getElem?_eq_none h]
    decide
/-- SumMore of any s and a text. -/
def sumMore (s : Int) (t : ByteArray) : Int := ((sm ((s % 4294967296).toNat ^^^ 4294967295) (bl t) ^^^ 4294967295 : Nat) : Int)
def sumOf (t : ByteArray) : Int := sumMore 0 t
theorem sumMore_range (s : Int) (t : ByteArray) : 0 ≤ sumMore s t ∧ sumMore s t < 4294967296 := by
  refine ⟨Int.natCast_nonneg _, ?_⟩
  have h0 : (s % 4294967296).toNat < 4294967296 := by omega
  have := xlt (sm_lt (bl t) (xlt h0 (by decide : 4294967295 < 4294967296)) (bl_lt t)) (by decide : 4294967295 < 4294967296)
  unfold sumMore
  omega

/-! ### numbers in so many bytes -/
def fixL : Nat → Int → List Int
  | 0, _ => []
  | d + 1, n => n % 256 :: fixL d (n / 256)
theorem fixL_length : ∀ (d : Nat) (n : Int), (fixL d n).length = d
  | 0, _ => rfl
  | d + 1, n => by simp [fixL, fixL_length d]
theorem div_div (n : Int) (d : Nat) : n / 256 / 256 ^ d = n / 256 ^ (d + 1) := by
  rw [Int.ediv_ediv_of_nonneg (by decide), Int.pow_succ, Int.mul_comm]
theorem fixL_snoc : ∀ (d : Nat) (n : Int), fixL (d + 1) n = fixL d n ++ [n / 256 ^ d % 256]
  | 0, n => by simp [fixL]
  | d + 1, n => by
    rw [show fixL (d + 1 + 1) n = n % 256 :: fixL (d + 1) (n / 256) from rfl, fixL_snoc d (n / 256), div_div]
    rfl
def fixT (n w : Int) : ByteArray := if n < 0 ∨ w < 1 ∨ 8 < w ∨ n / 256 ^ w.toNat > 0 then ⟨#[]⟩ else strOfNums (fixL w.toNat n)

theorem strOfNums_size (l : List Int) : (strOfNums l).size = l.length := by simp [strOfNums, ByteArray.size]
theorem mkE_size : (⟨#[]⟩ : ByteArray).size = 0 := rfl
theorem fixT_le (n w : Int) : (fixT n w).size ≤ 8 := by
  unfold fixT
  split
  · exact Nat.zero_le _
  · rename_i h
    rw [strOfNums_size, fixL_length]
    omega
theorem fixT_size (n w : Int) (h0 : 0 ≤ n) (h1 : 1 ≤ w) (h8 : w ≤ 8) (hn : n < 256 ^ w.toNat) : (fixT n w).size = w.toNat := by
  unfold fixT
  rw [if_neg (by
    have : n / 256 ^ w.toNat = 0 := Int.ediv_eq_zero_of_lt h0 hn
    omega), strOfNums_size, fixL_length]
theorem fixT4_size (n : Int) (h0 : 0 ≤ n) (hn : n < 4294967296) : (fixT n 4).size = 4 := fixT_size n 4 h0 (by decide) (by decide) hn
theorem fixT8_size (n : Int) (h0 : 0 ≤ n) (hn : n < 9223372036854775808) : (fixT n 8).size = 8 := fixT_size n 8 h0 (by decide) (by decide) (by
  have : (256 : Int) ^ (8 : Int).toNat = 18446744073709551616 := by decide
  omega)

/-! ### numbers in as few bytes as can be -/
def varL : Nat → Int → List Int
  | 0, n => [n % 256]
  | d + 1, n => if n > 127 then (n % 128 + 128) :: varL d (n / 128) else [n % 256]
def varT (n : Int) : ByteArray := if n < 0 ∨ 1000000000 < n then ⟨#[]⟩ else strOfNums (varL 4 n)
theorem varL_gt (d : Nat) (n : Int) (h : n > 127) : varL (d + 1) n = (n % 128 + 128) :: varL d (n / 128) := if_pos h
theorem varL_ngt (d : Nat) (n : Int) (h : ¬ n > 127) : varL (d + 1) n = [n % 256] := if_neg h
theorem varL_le : ∀ (d : Nat) (n : Int), (varL d n).length ≤ d + 1
  | 0, _ => by simp [varL]
  | d + 1, n => by
    unfold varL
    split
    · have := varL_le d (n / 128)
      simp; omega
    · simp
theorem varL_pos : ∀ (d : Nat) (n : Int), 0 < (varL d n).length
  | 0, _ => by simp [varL]
  | d + 1, n => by unfold varL; split <;> simp
theorem varT_le (n : Int) : (varT n).size ≤ 5 := by
  unfold varT
  split
  · exact Nat.zero_le _
  · rw [strOfNums_size]; exact varL_le 4 n
theorem varT_pos (n : Int) (h0 : 0 ≤ n) (h1 : n ≤ 1000000000) : 0 < (varT n).size := by
  unfold varT
  rw [if_neg (by omega), strOfNums_size]
  exact varL_pos 4 n
theorem or128 (m : Nat) (h : m < 256) : m ||| 128 = m % 128 + 128 := by
  have : ∀ m : Fin 256, m.val ||| 128 = m.val % 128 + 128 := by decide +kernel
  exact this ⟨m, h⟩
theorem orU8 (x : Int) : Go.bits .or .u8 (x % 256) 128 = x % 128 + 128 := by
  have h0 : x % 256 = (((x % 256).toNat : Nat) : Int) := by omega
  have h := (bits_nat .u8 8 (by decide) wraps_u8 (x % 256).toNat 128 (by omega) (by decide)).2
  rw [show ((128 : Nat) : Int) = 128 from rfl] at h
  rw [h0, h, or128 _ (by omega)]
  omega
theorem or64 (x : Int) : Go.bits .or .i64 (Go.bits .and .i64 x 127) 128 % 256 = x % 128 + 128 := by
  rw [and_127]
  have h0 : x % 128 = (((x % 128).toNat : Nat) : Int) := by omega
  have h := (bits_nat .i64 32 (by decide) wr64 (x % 128).toNat 128 (by omega) (by decide)).2
  rw [show ((128 : Nat) : Int) = 128 from rfl] at h
  rw [h0, h, or128 _ (by omega)]
  omega

/-! ### marks and frames -/
theorem toList_eq_iff (a b : ByteArray) : a.toList = b.toList ↔ a = b := by
  rw [ByteArray.toList_eq, ByteArray.toList_eq]
  exact ⟨fun h => ByteArray.ext (Array.toList_inj.1 h), fun h => by rw [h]⟩
theorem toList_nil_iff (a : ByteArray) : a.toList = ([] : List UInt8) ↔ a.size = 0 := by
  rw [ByteArray.toList_eq, ← List.length_eq_zero_iff, Array.length_toList]
  exact Iff.rfl
theorem toList_beq (a b : ByteArray) : (a.toList == b.toList) = decide (a = b) := by
  rw [Bool.eq_iff_iff, beq_iff_eq, decide_eq_true_iff]
  exact toList_eq_iff a b
def sizedT (p n : Int) : ByteArray := fixT n 4 ++ fixT (sumOf (fixT p 8 ++ fixT n 4)) 4
def verOk (v : Int) : Prop := v = 1 ∨ v = 2
instance (v : Int) : Decidable (verOk v) := by unfold verOk; infer_instance
def numOk (n : Int) : Prop := 0 ≤ n ∧ n ≤ 1000000000
instance (v : Int) : Decidable (numOk v) := by unfold numOk; infer_instance
def endMark (v p : Int) : ByteArray := if verOk v ∧ numOk p then (if v = 1 then ⟨#[255, 255, 255, 255, 15]⟩ else sizedT p 4294967295) else ⟨#[]⟩
def frameT (v p : Int) (r : ByteArray) : ByteArray :=
  if verOk v ∧ numOk p ∧ r.size ≤ 60 then (if v = 1 then varT r.size else sizedT p r.size) ++ r ++ fixT (sumOf r) 4 else ⟨#[]⟩
theorem sizedT_le (p n : Int) : (sizedT p n).size ≤ 16 := by
  unfold sizedT
  have h1 := fixT_le n 4
  have h2 := fixT_le (sumOf (fixT p 8 ++ fixT n 4)) 4
  rw [ByteArray.size_append]; omega
theorem endMark_le (v p : Int) : (endMark v p).size ≤ 16 := by
  unfold endMark
  split
  · split
    · decide
    · exact sizedT_le _ _
  · exact Nat.zero_le _
/-- Whether a text stands at a place. -/
def hasAt (b : ByteArray) (a : Int) (t : ByteArray) : Bool := decide (0 ≤ a ∧ a + t.size ≤ b.size ∧ b.extract a.toNat (a.toNat + t.size) = t)
def markAt (v p : Int) (b : ByteArray) (a : Int) : Bool := decide ((endMark v p).size ≠ 0) && hasAt b a (endMark v p)

/-! ### what stands at the end -/
def trailGo (acc : ByteArray) : List Int → ByteArray
  | [] => acc ++ ⟨#[73, 68, 88, 33]⟩
  | n :: l => if (fixT n 4).size = 0 then ⟨#[]⟩ else trailGo (acc ++ fixT n 4) l
def trailT (a b c d : Int) : ByteArray := trailGo ⟨#[]⟩ [a, b, c, d]

/-! ### rounds, and what is known of the answer -/
def EvP {α : Type} (g : Nat → Option α) (Q : α → Prop) : Prop := ∃ r, Ev g r ∧ Q r
theorem EvP.of {α : Type} {g : Nat → Option α} {r : α} {Q : α → Prop} (h : Ev g r) (q : Q r) : EvP g Q := ⟨r, h, q⟩
theorem EvP.now {α : Type} {r : α} {Q : α → Prop} (q : Q r) : EvP (fun _ => some r) Q := ⟨r, Ev.now r, q⟩
theorem EvP.con {α : Type} {x : Option α} {r : α} {Q : α → Prop} (h : x = some r) (q : Q r) : EvP (fun _ => x) Q := ⟨r, ⟨0, fun _ _ => h⟩, q⟩
theorem EvP.bind {α β : Type} {g : Nat → Option α} {f : Nat → α → Option β} {P : α → Prop} {Q : β → Prop} (h : EvP g P) (k : ∀ a, P a → EvP (fun n => f n a) Q) : EvP (fun n => (g n).bind (f n)) Q := by
  obtain ⟨a, ha, pa⟩ := h
  obtain ⟨r, hr, q⟩ := k a pa
  exact ⟨r, Ev.bind ha hr, q⟩
/-- Behind a call whose answer is known. -/
theorem EvP.call {α β : Type} {g : Nat → Option α} {f : Nat → α → Option β} {a : α} {Q : β → Prop} (h : Ev g a) (k : EvP (fun n => f n a) Q) : EvP (fun n => (g n).bind (f n)) Q := by
  obtain ⟨r, hr, q⟩ := k
  exact ⟨r, Ev.bind h hr, q⟩
theorem EvP.callc {α β : Type} {x : Option α} {f : Nat → α → Option β} {a : α} {Q : β → Prop} (h : x = some a) (k : EvP (fun n => f n a) Q) : EvP (fun n => x.bind (f n)) Q := by
  obtain ⟨r, hr, q⟩ := k
  exact ⟨r, ev_now h hr, q⟩
theorem EvP.step {α : Type} {g f : Nat → Option α} {Q : α → Prop} (h : ∀ k, g (k + 1) = f k) (k : EvP f Q) : EvP g Q := by
  obtain ⟨r, hr, q⟩ := k
  exact ⟨r, Ev.step h hr, q⟩
theorem EvP.pos {α : Type} {c : Prop} [Decidable c] {A B : Nat → Option α} {Q : α → Prop} (h : c) (H : EvP A Q) : EvP (fun k => if c then A k else B k) Q := by
  obtain ⟨r, hr, q⟩ := H
  exact ⟨r, ev_pos h hr, q⟩
theorem EvP.neg {α : Type} {c : Prop} [Decidable c] {A B : Nat → Option α} {Q : α → Prop} (h : ¬ c) (H : EvP B Q) : EvP (fun k => if c then A k else B k) Q := by
  obtain ⟨r, hr, q⟩ := H
  exact ⟨r, ev_neg h hr, q⟩
theorem EvP.ite {α : Type} {c : Prop} [Decidable c] {A B : Nat → Option α} {Q : α → Prop} (h : c → EvP A Q) (h' : ¬ c → EvP B Q) : EvP (fun k => if c then A k else B k) Q := by
  by_cases e : c
  · exact .pos e (h e)
  · exact .neg e (h' e)
theorem EvP.mono {α : Type} {g : Nat → Option α} {P Q : α → Prop} (h : EvP g P) (k : ∀ a, P a → Q a) : EvP g Q := by
  obtain ⟨r, hr, q⟩ := h
  exact ⟨r, hr, k r q⟩
theorem EvP.holds {g : Nat → Option Bool} (h : EvP g (· = true)) : ∃ k, g k = some true := by
  obtain ⟨r, hr, rfl⟩ := h
  exact hr.rounds
theorem EvP.ev {α : Type} {g : Nat → Option α} {r : α} (h : EvP g (· = r)) : Ev g r := by
  obtain ⟨_, hr, rfl⟩ := h
  exact hr

/-! ### rows -/
theorem rdOf_drop {α : Type} (d : α) (xs : List α) (i : Nat) (h : i < xs.length) : xs.drop i = rdOf d xs (i : Int) :: xs.drop (i + 1) := by
  unfold rdOf
  rw [List.drop_eq_getElem_cons h, Int.toNat_natCast, List.getD_eq_getElem?_getD, List.getElem?_eq_getElem h]
  rfl
theorem rd_drop (xs : List Int) (i : Nat) (h : i < xs.length) : xs.drop i = rd xs (i : Int) :: xs.drop (i + 1) := rdOf_drop 0 xs i h
theorem rdOf_mem {α : Type} (d : α) (xs : List α) (i : Nat) (h : i < xs.length) : rdOf d xs (i : Int) ∈ xs := by
  unfold rdOf
  rw [Int.toNat_natCast, List.getD_eq_getElem?_getD, List.getElem?_eq_getElem h]
  exact List.getElem_mem h
theorem rd_get (xs : List Int) (i : Nat) (h : i < xs.length) : rd xs (i : Int) = xs[i] := by
  unfold rd
  rw [Int.toNat_natCast, List.getD_eq_getElem?_getD, List.getElem?_eq_getElem h]
  rfl

/-! ### draws: a place in the bytes that are drawn from -/
def Cu (c : List Int) (i : Int) : Prop := 0 ≤ i ∧ i ≤ c.length ∧ c.length ≤ 1048576

/-! ### links -/
def linkMore (l : Int) (r : ByteArray) : Int := sumMore l (fixT r.size 4 ++ r)
def linkAll (l : Int) (rs : List ByteArray) : Int := rs.foldl linkMore l

/-! ### rows that are marked, copied, compared -/
def seqL : Nat → Int → List Int
  | 0, _ => []
  | d + 1, m => m :: seqL d (m + 1)
theorem seqL_length : ∀ (d : Nat) (m : Int), (seqL d m).length = d
  | 0, _ => rfl
  | d + 1, m => by simp [seqL, seqL_length d]
theorem seqL_snoc : ∀ (d : Nat) (m : Int), seqL (d + 1) m = seqL d m ++ [m + d]
  | 0, m => by simp [seqL]
  | d + 1, m => by
    rw [show seqL (d + 1 + 1) m = m :: seqL (d + 1) (m + 1) from rfl, seqL_snoc d (m + 1)]
    rw [show seqL (d + 1) m = m :: seqL d (m + 1) from rfl]
    simp only [List.cons_append, Int.natCast_add]
    congr 3
    omega
theorem seqL_get : ∀ (d : Nat) (m : Int) (i : Nat), i < d → rd (seqL d m) i = m + i
  | d + 1, m, 0, _ => by simp [rd, seqL]
  | d + 1, m, i + 1, h => by
    have := seqL_get d (m + 1) i (by omega)
    unfold rd at this ⊢
    rw [Int.toNat_natCast] at this ⊢
    rw [show seqL (d + 1) m = m :: seqL d (m + 1) from rfl, List.getD_cons_succ, this]
    omega
/-- Cell i of a row of which i cells are done is set. -/
theorem set_mid {α : Type} (a b : List α) (x y : α) (i : Nat) (h : a.length = i) : (a ++ x :: b).set i y = a ++ y :: b := by
  subst h
  simp
theorem take_snoc {α : Type} (d : α) (xs : List α) (i : Nat) (h : i < xs.length) : xs.take (i + 1) = xs.take i ++ [rdOf d xs (i : Int)] := by
  unfold rdOf
  rw [List.take_succ_eq_append_getElem h, Int.toNat_natCast, List.getD_eq_getElem?_getD, List.getElem?_eq_getElem h]
  rfl

/-! ### places of every so many-eth -/
def plc {α : Type} (mk : Int → Int → α) (s : Int) : List Int → Nat → List α
  | [], _ => []
  | x :: l, i => if (i : Int) % s = 0 then mk i x :: plc mk s l (i + 1) else plc mk s l (i + 1)
theorem plc_skip {α : Type} (mk : Int → Int → α) (s : Int) (l : List Int) : ∀ (m j : Nat), (∀ t : Nat, j ≤ t → t < j + m → (t : Int) % s ≠ 0) → plc mk s (l.drop j) j = plc mk s (l.drop (j + m)) (j + m)
  | 0, j, _ => rfl
  | m + 1, j, h => by
    rcases Nat.lt_or_ge j l.length with hj | hj
    · rw [List.drop_eq_getElem_cons hj]
      have h0 := h j (Nat.le_refl _) (by omega)
      rw [show plc mk s (l[j] :: l.drop (j + 1)) j = plc mk s (l.drop (j + 1)) (j + 1) by unfold plc; rw [if_neg h0]; cases l.drop (j + 1) <;> rfl]
      rw [plc_skip mk s l m (j + 1) (fun t h1 h2 => h t (by omega) (by omega)), show j + 1 + m = j + (m + 1) by omega]
    · rw [List.drop_of_length_le hj, List.drop_of_length_le (by omega)]
      rfl
theorem plc_length {α : Type} (mk : Int → Int → α) (s : Int) : ∀ (l : List Int) (i : Nat), (plc mk s l i).length ≤ l.length
  | [], _ => by simp [plc]
  | x :: l, i => by
    have := plc_length mk s l (i + 1)
    unfold plc
    split <;> simp <;> omega
def placesOf {α : Type} (mk : Int → Int → α) (s : Int) (l : List Int) : List α := if s < 1 then [] else plc mk s l 0

end Go.Proofs.Ytbbbnedaeiddiaa.Mth
