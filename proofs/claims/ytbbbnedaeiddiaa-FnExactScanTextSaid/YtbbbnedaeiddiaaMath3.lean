/- Plain mathematics for this seat's laws, third part: numbers in as few bytes as can be, read; heads; frames; scans. No program in it.
   Conditions: none beyond those that each lemma names. -/
import Derived.Test.YtbbbnedaeiddiaaMath2
namespace Go.Proofs.Ytbbbnedaeiddiaa.Mth
open Go.RowKit Go.Proofs.YtbbbnedaeiddiaaW.PrintWords Go.Proofs.YtbbbnedaeiddiaaW.PrintLast Go.Proofs.YtbbbnedaeiddiaaW.PrintMore
set_option linter.unusedVariables false
set_option linter.unusedSimpArgs false

/-! ### numbers in as few bytes as can be, read -/
def acc : List Int → Int
  | [] => 0
  | x :: l => x % 128 + 128 * acc l
theorem acc_range : ∀ (l : List Int), 0 ≤ acc l ∧ acc l < 128 ^ l.length
  | [] => by simp [acc]
  | x :: l => by
    have := acc_range l
    simp only [acc, List.length_cons, Int.pow_succ]
    omega
theorem acc_snoc : ∀ (l : List Int) (x : Int), acc (l ++ [x]) = acc l + x % 128 * 128 ^ l.length
  | [], x => by simp [acc]
  | y :: l, x => by
    simp only [List.cons_append, acc, List.length_cons, Int.pow_succ, acc_snoc l x]
    rw [Int.mul_add, Int.mul_left_comm (128 : Int) (x % 128), Int.mul_comm (128 : Int) (128 ^ l.length)]
    omega
theorem acc_pos : ∀ (l : List Int) (x : Int), 0 < x → x < 128 → 0 < acc (l ++ [x])
  | [], x, h0, h1 => by simp only [List.nil_append, acc]; omega
  | y :: l, x, h0, h1 => by
    have := acc_pos l x h0 h1
    simp only [List.cons_append, acc]
    omega
theorem varL_acc : ∀ (l : List Int) (d : Nat) (x : Int), l.length ≤ d → (∀ y ∈ l, 128 ≤ y ∧ y ≤ 255) → 0 ≤ x → x < 128 → (l = [] ∨ x ≠ 0) → varL d (acc (l ++ [x])) = l ++ [x]
  | [], d, x, _, _, h0, h1, _ => by
    have e : acc ([] ++ [x]) = x := by simp only [List.nil_append, acc]; omega
    rw [e]
    cases d with
    | zero => simp only [varL, List.nil_append]; rw [Int.emod_eq_of_lt h0 (by omega)]
    | succ d => rw [varL_ngt d x (by omega), Int.emod_eq_of_lt h0 (by omega)]; rfl
  | y :: l, 0, x, hd, _, _, _, _ => by simp at hd
  | y :: l, d + 1, x, hd, hl, h0, h1, hx => by
    have hx' : x ≠ 0 := hx.resolve_left (by simp)
    have hp := acc_pos l x (by omega) h1
    have hy := hl y (by simp)
    have e : acc (y :: l ++ [x]) = y % 128 + 128 * acc (l ++ [x]) := rfl
    have hd' : l.length ≤ d := by simpa using hd
    rw [e, varL_gt _ _ (by omega), show (y % 128 + 128 * acc (l ++ [x])) / 128 = acc (l ++ [x]) by omega, show (y % 128 + 128 * acc (l ++ [x])) % 128 + 128 = y by omega,
      varL_acc l d x hd' (fun z hz => hl z (by simp [hz])) h0 h1 (.inr hx')]
    rfl
theorem varL_last : ∀ (d : Nat) (n : Int), 1 ≤ n → n < 128 ^ (d + 1) → (varL d n).getLast? ≠ some 0
  | 0, n, h1, h2 => by
    simp only [varL, List.getLast?_singleton]
    intro h
    injection h with h
    omega
  | d + 1, n, h1, h2 => by
    by_cases h : n > 127
    · rw [varL_gt d n h]
      have hp : n / 128 < 128 ^ (d + 1) := by rw [Int.pow_succ] at h2; omega
      have := varL_last d (n / 128) (by omega) hp
      have hne : varL d (n / 128) ≠ [] := fun e => by have := varL_pos d (n / 128); rw [e] at this; simp at this
      rw [List.getLast?_cons_of_ne_nil hne]
      exact this
    · rw [varL_ngt d n h]
      simp only [List.getLast?_singleton]
      intro h
      injection h with h
      omega
theorem varL_canon (l : List Int) (x : Int) (hl4 : l.length ≤ 4) (hl : ∀ y ∈ l, 128 ≤ y ∧ y ≤ 255) (h0 : 0 ≤ x) (h1 : x < 128) : varL 4 (acc (l ++ [x])) = l ++ [x] ↔ ¬ (0 < l.length ∧ x = 0) := by
  constructor
  · rintro h ⟨h2, rfl⟩
    have hr := acc_range (l ++ [0])
    by_cases hz : acc (l ++ [0]) = 0
    · rw [hz] at h
      have := congrArg List.length h
      rw [varL_ngt 3 0 (by decide), List.length_append, List.length_singleton, List.length_singleton] at this
      omega
    · refine varL_last 4 (acc (l ++ [0])) (by omega) ?_ ?_
      · have h6 : (128 : Nat) ^ (l ++ [(0 : Int)]).length ≤ 128 ^ (4 + 1) := Nat.pow_le_pow_right (by decide) (by rw [List.length_append, List.length_singleton]; omega)
        have h7 : (128 : Int) ^ (l ++ [(0 : Int)]).length ≤ 128 ^ (4 + 1) := by exact_mod_cast h6
        exact Int.lt_of_lt_of_le hr.2 h7
      · rw [h]
        exact List.getLast?_concat
  · intro h
    refine varL_acc l 4 x hl4 hl h0 h1 ?_
    cases l with
    | nil => exact .inl rfl
    | cons y l => exact .inr (fun e => h ⟨by simp, e⟩)
theorem varL_range : ∀ (d : Nat) (n : Int), 0 ≤ n → ∀ x ∈ varL d n, 0 ≤ x ∧ x ≤ 255
  | 0, n, h, x, hx => by
    simp only [varL, List.mem_singleton] at hx
    omega
  | d + 1, n, h, x, hx => by
    by_cases h1 : n > 127
    · rw [varL_gt d n h1] at hx
      rcases List.mem_cons.1 hx with rfl | hx
      · omega
      · exact varL_range d _ (by omega) x hx
    · rw [varL_ngt d n h1, List.mem_singleton] at hx
      omega
def rvI (b : ByteArray) (a : Nat) : Nat → Nat → Int × Int × Bool
  | 0, _ => (0, 0, false)
  | d + 1, i => if a + i < b.size then
      (if bt b ((a + i : Nat) : Int) ≥ 128 then rvI b a d (i + 1)
       else if (0 < i ∧ bt b ((a + i : Nat) : Int) = 0) ∨ 1000000000 < acc (seg b a (i + 1)) then (0, 0, false) else (acc (seg b a (i + 1)), ((a + i + 1 : Nat) : Int), true))
      else (0, 0, false)
/-- The number whose VarText stands there. -/
def rv (b : ByteArray) (a : Int) : Int × Int × Bool := if 0 ≤ a then rvI b a.toNat 5 0 else (0, 0, false)
theorem rvI_range (b : ByteArray) (a : Nat) : ∀ (d i : Nat), (rvI b a d i).2.2 = true → 0 ≤ (rvI b a d i).1 ∧ (rvI b a d i).1 ≤ 1000000000 ∧ (a : Int) < (rvI b a d i).2.1 ∧ (rvI b a d i).2.1 ≤ b.size
  | 0, i, h => by simp [rvI] at h
  | d + 1, i, h => by
    unfold rvI at h ⊢
    split at h
    · rename_i h1
      rw [if_pos h1]
      split at h
      · rename_i h2
        rw [if_pos h2]
        exact rvI_range b a d (i + 1) h
      · rename_i h2
        rw [if_neg h2]
        split at h
        · simp at h
        · rename_i h3
          rw [if_neg h3]
          have := acc_range (seg b a (i + 1))
          refine ⟨this.1, by omega, ?_, ?_⟩
          · show (a : Int) < ((a + i + 1 : Nat) : Int)
            omega
          · show ((a + i + 1 : Nat) : Int) ≤ b.size
            omega
    · simp at h
theorem rv_range (b : ByteArray) (a : Int) (h : (rv b a).2.2 = true) : 0 ≤ a ∧ 0 ≤ (rv b a).1 ∧ (rv b a).1 ≤ 1000000000 ∧ a < (rv b a).2.1 ∧ (rv b a).2.1 ≤ b.size := by
  unfold rv at h ⊢
  split at h
  · rename_i h1
    rw [if_pos h1]
    have := rvI_range b a.toNat 5 0 h
    exact ⟨h1, this.1, this.2.1, by omega, this.2.2.2⟩
  · simp at h
theorem rv_small (x y : ByteArray) (n : Int) (h0 : 0 ≤ n) (h1 : n < 128) : rv (x ++ varT n ++ y) x.size = (n, (x.size : Int) + ((varT n).size : Int), true) := by
  have ev : varT n = strOfNums [n] := by
    unfold varT
    rw [if_neg (by omega), varL_ngt 3 n (by omega), Int.emod_eq_of_lt h0 (by omega)]
  have es : (varT n).size = 1 := by rw [ev, strOfNums_size]; rfl
  have hb : bytesOf (varT n) = [n] := by rw [ev, bytesOf_strOf _ (by simp; omega)]
  have hseg : seg (x ++ varT n ++ y) x.size 1 = [n] := by rw [← hb, ← seg_mid x (varT n) y, es]
  have hsz : x.size < (x ++ varT n ++ y).size := by rw [ByteArray.size_append, ByteArray.size_append, es]; omega
  have hbt : bt (x ++ varT n ++ y) ((x.size + 0 : Nat) : Int) = n := by
    have := seg_cons (x ++ varT n ++ y) x.size 0 hsz
    rw [hseg] at this
    injection this with this _
    exact this.symm
  unfold rv
  rw [if_pos (by omega), Int.toNat_natCast]
  unfold rvI
  rw [if_pos (by omega), hbt, if_neg (by omega), hseg, if_neg (by simp only [acc]; omega), es]
  simp only [acc, Prod.mk.injEq]
  refine ⟨by omega, by omega, trivial⟩

/-- So many numbers, one behind the other. -/
def vars (b : ByteArray) : Nat → Int → Option (List Int × Int)
  | 0, e => some ([], e)
  | d + 1, e => if (rv b e).2.2 = true then (vars b d (rv b e).2.1).map (fun q => ((rv b e).1 :: q.1, q.2)) else none
theorem vars_some (b : ByteArray) : ∀ (d : Nat) (e : Int) (l : List Int) (e' : Int), vars b d e = some (l, e') → l.length = d ∧ (∀ x ∈ l, 0 ≤ x ∧ x ≤ 1000000000) ∧ (d = 0 → e' = e) ∧ (0 < d → 0 ≤ e ∧ 0 ≤ e' ∧ e' ≤ b.size)
  | 0, e, l, e', h => by
    simp only [vars, Option.some.injEq, Prod.mk.injEq] at h
    obtain ⟨rfl, rfl⟩ := h
    exact ⟨rfl, by simp, fun _ => rfl, fun h => absurd h (by decide)⟩
  | d + 1, e, l, e', h => by
    unfold vars at h
    split at h
    · rename_i h1
      obtain ⟨⟨q, e2⟩, hq, h2⟩ := Option.map_eq_some_iff.1 h
      simp only [Prod.mk.injEq] at h2
      obtain ⟨rfl, rfl⟩ := h2
      obtain ⟨k1, k2, k3, k4⟩ := vars_some b d _ q e2 hq
      have hr := rv_range b e h1
      refine ⟨by simp [k1], ?_, fun h => absurd h (by omega), fun _ => ⟨hr.1, ?_⟩⟩
      · intro x hx
        rcases List.mem_cons.1 hx with rfl | hx
        · omega
        · exact k2 x hx
      · by_cases hd : d = 0
        · have := k3 hd
          omega
        · have := k4 (by omega)
          omega
    · simp at h
/-- Two by two, each above the one ahead. -/
def prs {α : Type} (mk : Int → Int → α) : Int → Int → List Int → List α
  | c, a, x :: y :: l => mk (c + x) (a + y) :: prs mk (c + x) (a + y) l
  | _, _, _ => []
theorem prs_length {α : Type} (mk : Int → Int → α) : ∀ (c a : Int) (l : List Int), (prs mk c a l).length ≤ l.length
  | c, a, [] => by simp [prs]
  | c, a, [x] => by simp [prs]
  | c, a, x :: y :: l => by
    have := prs_length mk (c + x) (a + y) l
    simp only [prs, List.length_cons]
    omega
def rPlaces {α : Type} (mk : Int → Int → α) (b : ByteArray) (a : Int) : List α × Int × Bool :=
  if (rv b a).2.2 = true ∧ (rv b a).1 ≤ 1000 then (match vars b (2 * (rv b a).1.toNat) (rv b a).2.1 with | some q => (prs mk 0 0 q.1, q.2, true) | none => ([], 0, false)) else ([], 0, false)

/-! ### heads -/
def headOk (v s b l : Int) : Prop := verOk v ∧ (1 ≤ s ∧ s ≤ 20) ∧ numOk b ∧ (0 ≤ l ∧ l ≤ 4294967295)
instance (v s b l : Int) : Decidable (headOk v s b l) := by unfold headOk; infer_instance
def hdBody (v s b l : Int) : ByteArray := ⟨#[83, 69, 71, 77]⟩ ++ fixT v 1 ++ fixT s 1 ++ ⟨#[0, 0]⟩ ++ fixT b 8 ++ fixT l 4
def headT (v s b l : Int) : ByteArray := if headOk v s b l then hdBody v s b l ++ fixT (sumOf (hdBody v s b l)) 4 else ⟨#[]⟩
theorem fixT0 : fixT 0 2 = ⟨#[0, 0]⟩ := by decide +kernel
theorem hdBody_le (v s b l : Int) : (hdBody v s b l).size ≤ 38 := by
  unfold hdBody
  have h1 := fixT_le v 1
  have h2 := fixT_le s 1
  have h3 := fixT_le b 8
  have h4 := fixT_le l 4
  simp only [ByteArray.size_append]
  have h5 : (⟨#[83, 69, 71, 77]⟩ : ByteArray).size = 4 := rfl
  have h6 : (⟨#[0, 0]⟩ : ByteArray).size = 2 := rfl
  omega
theorem headT_size (v s b l : Int) (h : headOk v s b l) : (headT v s b l).size = 24 := by
  have h' := h
  unfold headOk verOk numOk at h'
  unfold headT
  rw [if_pos h]
  unfold hdBody
  have h1 := fixT_size v 1 (by omega) (by decide) (by decide) (by simp; omega)
  have h2 := fixT_size s 1 (by omega) (by decide) (by decide) (by simp; omega)
  have h3 := fixT8_size b (by omega) (by omega)
  have h4 := fixT4_size l (by omega) (by omega)
  have h7 := sumMore_range 0 (hdBody v s b l)
  have h8 := fixT4_size (sumOf (hdBody v s b l)) h7.1 h7.2
  unfold hdBody at h8
  simp only [ByteArray.size_append, h1, h2, h3, h4, h8]
  rfl
/-- The head whose HeadText the first bytes are. -/
def rHead (b : ByteArray) : Int × Int × Int × Int × Bool :=
  if b.size < 24 then (0, 0, 0, 0, false)
  else if (rfix b 8 8).2 = true ∧ headT (bt b 4) (bt b 5) (rfix b 8 8).1 (rfix b 16 4).1 = b.extract 0 24 then (bt b 4, bt b 5, (rfix b 8 8).1, (rfix b 16 4).1, true) else (0, 0, 0, 0, false)
theorem rHead_ok (b : ByteArray) (h : (rHead b).2.2.2.2 = true) : 24 ≤ b.size ∧ headOk (rHead b).1 (rHead b).2.1 (rHead b).2.2.1 (rHead b).2.2.2.1 ∧ headT (rHead b).1 (rHead b).2.1 (rHead b).2.2.1 (rHead b).2.2.2.1 = b.extract 0 24 := by
  unfold rHead at h ⊢
  split at h
  · simp at h
  · rename_i h1
    rw [if_neg h1]
    split at h
    · rename_i h2
      rw [if_pos h2]
      refine ⟨by omega, ?_, h2.2⟩
      have hs := congrArg ByteArray.size h2.2
      rw [ByteArray.size_extract] at hs
      by_cases hk : headOk (bt b 4) (bt b 5) (rfix b 8 8).1 (rfix b 16 4).1
      · exact hk
      · unfold headT at hs
        rw [if_neg hk, mkE_size] at hs
        omega
    · simp at h
theorem rHead_no (b : ByteArray) (h : ¬ (rHead b).2.2.2.2 = true) : rHead b = (0, 0, 0, 0, false) := by
  unfold rHead at h ⊢
  split at h
  · rw [if_pos (by assumption)]
  · rename_i h1
    rw [if_neg h1]
    split at h
    · simp at h
    · rename_i h2
      rw [if_neg h2]
theorem bt_mid (x t y : ByteArray) (n : Int) (h : bytesOf t = [n]) : bt (x ++ t ++ y) (x.size : Int) = n := by
  have es : t.size = 1 := by rw [← bytesOf_length, h]; rfl
  have hseg : seg (x ++ t ++ y) x.size 1 = [n] := by rw [← h, ← seg_mid x t y, es]
  have hsz : x.size < (x ++ t ++ y).size := by rw [ByteArray.size_append, ByteArray.size_append, es]; omega
  have := seg_cons (x ++ t ++ y) x.size 0 hsz
  rw [hseg] at this
  injection this with this _
  exact this.symm
theorem rHead_mk (v s b l : Int) (h : headOk v s b l) (y : ByteArray) : rHead (headT v s b l ++ y) = (v, s, b, l, true) := by
  have h' := h
  unfold headOk verOk numOk at h'
  have hs := headT_size v s b l h
  have h1 := fixT_size v 1 (by omega) (by decide) (by decide) (by simp; omega)
  have h2 := fixT_size s 1 (by omega) (by decide) (by decide) (by simp; omega)
  have h3 := fixT8_size b (by omega) (by omega)
  have h4 := fixT4_size l (by omega) (by omega)
  have b1 := bytesOf_fixT v 1 (by omega) (by decide) (by decide) (by simp; omega)
  have b2 := bytesOf_fixT s 1 (by omega) (by decide) (by decide) (by simp; omega)
  have e1 : fixL (1 : Int).toNat v = [v] := by show [v % 256] = [v]; rw [Int.emod_eq_of_lt (by omega) (by omega)]
  have e2 : fixL (1 : Int).toNat s = [s] := by show [s % 256] = [s]; rw [Int.emod_eq_of_lt (by omega) (by omega)]
  have et : headT v s b l ++ y = ⟨#[83, 69, 71, 77]⟩ ++ fixT v 1 ++ (fixT s 1 ++ ⟨#[0, 0]⟩ ++ fixT b 8 ++ fixT l 4 ++ fixT (sumOf (hdBody v s b l)) 4 ++ y) := by
    unfold headT
    rw [if_pos h]
    show (⟨#[83, 69, 71, 77]⟩ ++ fixT v 1 ++ fixT s 1 ++ ⟨#[0, 0]⟩ ++ fixT b 8 ++ fixT l 4) ++ _ ++ _ = _
    simp only [ByteArray.append_assoc]
  have p4 : bt (headT v s b l ++ y) 4 = v := by
    rw [et]
    exact bt_mid ⟨#[83, 69, 71, 77]⟩ (fixT v 1) _ v (b1.trans e1)
  have et2 : headT v s b l ++ y = (⟨#[83, 69, 71, 77]⟩ ++ fixT v 1) ++ fixT s 1 ++ (⟨#[0, 0]⟩ ++ fixT b 8 ++ fixT l 4 ++ fixT (sumOf (hdBody v s b l)) 4 ++ y) := by
    rw [et]
    simp only [ByteArray.append_assoc]
  have p5 : bt (headT v s b l ++ y) 5 = s := by
    rw [et2]
    have := bt_mid (⟨#[83, 69, 71, 77]⟩ ++ fixT v 1) (fixT s 1) (⟨#[0, 0]⟩ ++ fixT b 8 ++ fixT l 4 ++ fixT (sumOf (hdBody v s b l)) 4 ++ y) s (b2.trans e2)
    rw [ByteArray.size_append, h1] at this
    exact this
  have et3 : headT v s b l ++ y = (⟨#[83, 69, 71, 77]⟩ ++ fixT v 1 ++ fixT s 1 ++ ⟨#[0, 0]⟩) ++ fixT b 8 ++ (fixT l 4 ++ fixT (sumOf (hdBody v s b l)) 4 ++ y) := by
    rw [et]
    simp only [ByteArray.append_assoc]
  have p8 : rfix (headT v s b l ++ y) 8 8 = (b, true) := by
    rw [et3]
    have := rfix_mid (⟨#[83, 69, 71, 77]⟩ ++ fixT v 1 ++ fixT s 1 ++ ⟨#[0, 0]⟩) (fixT b 8) (fixT l 4 ++ fixT (sumOf (hdBody v s b l)) 4 ++ y) b 8 (by omega) (by decide) (by decide)
      (by have : (256 : Int) ^ (8 : Int).toNat = 18446744073709551616 := by decide
          omega) (by omega) rfl
    rw [ByteArray.size_append, ByteArray.size_append, ByteArray.size_append, h1, h2] at this
    exact this
  have et4 : headT v s b l ++ y = (⟨#[83, 69, 71, 77]⟩ ++ fixT v 1 ++ fixT s 1 ++ ⟨#[0, 0]⟩ ++ fixT b 8) ++ fixT l 4 ++ (fixT (sumOf (hdBody v s b l)) 4 ++ y) := by
    rw [et]
    simp only [ByteArray.append_assoc]
  have p16 : rfix (headT v s b l ++ y) 16 4 = (l, true) := by
    rw [et4]
    have := rfix_mid (⟨#[83, 69, 71, 77]⟩ ++ fixT v 1 ++ fixT s 1 ++ ⟨#[0, 0]⟩ ++ fixT b 8) (fixT l 4) (fixT (sumOf (hdBody v s b l)) 4 ++ y) l 4 (by omega) (by decide) (by decide)
      (by have : (256 : Int) ^ (4 : Int).toNat = 4294967296 := by decide
          omega) (by omega) rfl
    rw [ByteArray.size_append, ByteArray.size_append, ByteArray.size_append, ByteArray.size_append, h1, h2, h3] at this
    exact this
  unfold rHead
  rw [p4, p5, p8, p16, if_neg (by rw [ByteArray.size_append, hs]; omega), if_pos ⟨rfl, by
    rw [ByteArray.extract_append_eq_left hs.symm]⟩]

/-! ### frames -/
theorem frameT_le (v p : Int) (r : ByteArray) : (frameT v p r).size ≤ 84 := by
  unfold frameT
  split
  · rename_i h
    have h1 := sizedT_le p r.size
    have h2 := varT_le r.size
    have h3 := fixT_le (sumOf r) 4
    simp only [ByteArray.size_append]
    split <;> omega
  · exact Nat.zero_le _
/-- How long the record is, and where it begins. -/
def fq (v : Int) (b : ByteArray) (a : Int) : Int × Int × Bool := if v = 2 then ((rfix b a 4).1, a + 8, (rfix b a 4).2) else rv b a
def rFrameQ (v p : Int) (b : ByteArray) (a : Int) (q : Int × Int × Bool) : ByteArray × Int × Bool :=
  if (verOk v ∧ numOk p ∧ 0 ≤ a ∧ a ≤ b.size) ∧ q.2.2 = true ∧ q.1 ≤ 60 ∧ q.2.1 + q.1 ≤ b.size ∧ hasAt b a (frameT v p (b.extract q.2.1.toNat (q.2.1 + q.1).toNat)) = true
  then (b.extract q.2.1.toNat (q.2.1 + q.1).toNat, a + ((frameT v p (b.extract q.2.1.toNat (q.2.1 + q.1).toNat)).size : Int), true) else (⟨#[]⟩, 0, false)
/-- The record whose FrameText stands there. -/
def rFrame (v p : Int) (b : ByteArray) (a : Int) : ByteArray × Int × Bool := rFrameQ v p b a (fq v b a)
theorem hasAt_iff (b : ByteArray) (a : Int) (t : ByteArray) : hasAt b a t = true ↔ 0 ≤ a ∧ a + t.size ≤ b.size ∧ b.extract a.toNat (a.toNat + t.size) = t := by
  unfold hasAt
  rw [decide_eq_true_iff]
theorem frameT_pos (v p : Int) (r : ByteArray) (hv : verOk v) (hp : numOk p) (hr : r.size ≤ 60) : 5 ≤ (frameT v p r).size := by
  unfold frameT
  rw [if_pos ⟨hv, hp, hr⟩]
  have h7 := sumMore_range 0 r
  have h8 := fixT4_size (sumOf r) h7.1 h7.2
  simp only [ByteArray.size_append, h8]
  split
  · have := varT_pos r.size (by omega) (by omega)
    omega
  · unfold sizedT
    have := fixT4_size r.size (by omega) (by omega)
    rw [ByteArray.size_append]
    omega
theorem rFrame_ok (v p : Int) (b : ByteArray) (a : Int) (h : (rFrame v p b a).2.2 = true) :
    verOk v ∧ numOk p ∧ 0 ≤ a ∧ (rFrame v p b a).1.size ≤ 60 ∧ (rFrame v p b a).2.1 = a + ((frameT v p (rFrame v p b a).1).size : Int) ∧ hasAt b a (frameT v p (rFrame v p b a).1) = true ∧ a + 5 ≤ (rFrame v p b a).2.1 ∧ (rFrame v p b a).2.1 ≤ b.size := by
  unfold rFrame at h ⊢
  generalize fq v b a = q at h ⊢
  unfold rFrameQ at h ⊢
  split at h
  · rename_i h1
    rw [if_pos h1]
    have h2 := (hasAt_iff _ _ _).1 h1.2.2.2.2
    have hsz : (b.extract q.2.1.toNat (q.2.1 + q.1).toNat).size ≤ 60 := by
      rw [ByteArray.size_extract]
      have := h1.2.2.1
      omega
    have h3 := frameT_pos v p _ h1.1.1 h1.1.2.1 hsz
    refine ⟨h1.1.1, h1.1.2.1, h1.1.2.2.1, hsz, rfl, h1.2.2.2.2, ?_, ?_⟩
    · show a + 5 ≤ a + ((frameT v p _).size : Int)
      omega
    · exact h2.2.1
  · simp at h
theorem rFrame_no (v p : Int) (b : ByteArray) (a : Int) (h : ¬ (rFrame v p b a).2.2 = true) : rFrame v p b a = (⟨#[]⟩, 0, false) := by
  unfold rFrame at h ⊢
  generalize fq v b a = q at h ⊢
  unfold rFrameQ at h ⊢
  split at h
  · simp at h
  · rename_i h1
    rw [if_neg h1]
theorem hasAt_mid (x t y : ByteArray) : hasAt (x ++ t ++ y) x.size t = true := by
  rw [hasAt_iff]
  refine ⟨by omega, by rw [ByteArray.size_append, ByteArray.size_append]; omega, ?_⟩
  rw [Int.toNat_natCast]
  apply bytesOf_inj
  rw [extract_seg, seg_mid]
theorem rFrame_mid (v p : Int) (r x y : ByteArray) (hv : verOk v) (hp : numOk p) (hr : r.size ≤ 60) :
    rFrame v p (x ++ frameT v p r ++ y) x.size = (r, (x.size : Int) + ((frameT v p r).size : Int), true) := by
  have hh := hasAt_mid x (frameT v p r) y
  have hsize : (x ++ frameT v p r ++ y).size = x.size + (frameT v p r).size + y.size := by rw [ByteArray.size_append, ByteArray.size_append]
  have key : ∀ (q : Int × Int × Bool) (m : Nat), q = ((r.size : Int), (x.size : Int) + (m : Int), true) → (x ++ frameT v p r ++ y).extract (x.size + m) (x.size + m + r.size) = r → x.size + m + r.size ≤ (x ++ frameT v p r ++ y).size →
      rFrameQ v p (x ++ frameT v p r ++ y) x.size q = (r, (x.size : Int) + ((frameT v p r).size : Int), true) := by
    rintro q m rfl h4 h5
    unfold rFrameQ
    dsimp only
    rw [show ((x.size : Int) + (m : Int)).toNat = x.size + m by omega, show ((x.size : Int) + (m : Int) + (r.size : Int)).toNat = x.size + m + r.size by omega, h4]
    rw [if_pos ⟨⟨hv, hp, by omega, by omega⟩, rfl, by omega, by omega, hh⟩]
  unfold rFrame
  have hf : frameT v p r = (if v = 1 then varT r.size else sizedT p r.size) ++ r ++ fixT (sumOf r) 4 := by unfold frameT; rw [if_pos ⟨hv, hp, hr⟩]
  have mid : ∀ h : ByteArray, frameT v p r = h ++ r ++ fixT (sumOf r) 4 → (x ++ frameT v p r ++ y).extract (x.size + h.size) (x.size + h.size + r.size) = r := by
    intro h e
    apply bytesOf_inj
    rw [extract_seg, e, show x ++ (h ++ r ++ fixT (sumOf r) 4) ++ y = (x ++ h) ++ r ++ (fixT (sumOf r) 4 ++ y) by simp only [ByteArray.append_assoc], ← ByteArray.size_append, seg_mid]
  rcases hv with rfl | rfl
  · rw [if_pos rfl] at hf
    have e : x ++ frameT 1 p r ++ y = x ++ varT r.size ++ (r ++ fixT (sumOf r) 4 ++ y) := by rw [hf]; simp only [ByteArray.append_assoc]
    have hq : rv (x ++ frameT 1 p r ++ y) x.size = ((r.size : Int), (x.size : Int) + ((varT r.size).size : Int), true) := by rw [e]; exact rv_small x _ r.size (by omega) (by omega)
    refine key _ (varT r.size).size (by unfold fq; rw [if_neg (by decide)]; exact hq) (mid _ hf) ?_
    rw [hsize, hf]
    simp only [ByteArray.size_append]
    omega
  · rw [if_neg (by decide)] at hf
    have hs : (sizedT p r.size).size = 8 := by
      unfold sizedT
      have h7 := sumMore_range 0 (fixT p 8 ++ fixT r.size 4)
      have h9 := fixT4_size (sumOf (fixT p 8 ++ fixT r.size 4)) h7.1 h7.2
      rw [ByteArray.size_append, fixT4_size _ (by omega) (by omega), h9]
    have e : x ++ frameT 2 p r ++ y = x ++ fixT r.size 4 ++ (fixT (sumOf (fixT p 8 ++ fixT r.size 4)) 4 ++ r ++ fixT (sumOf r) 4 ++ y) := by
      rw [hf]
      unfold sizedT
      simp only [ByteArray.append_assoc]
    have h256 : (256 : Int) ^ (4 : Int).toNat = 4294967296 := by decide
    have hq : rfix (x ++ frameT 2 p r ++ y) x.size 4 = ((r.size : Int), true) := by
      rw [e]
      exact rfix_mid x _ _ r.size 4 (by omega) (by decide) (by decide) (by omega) (by omega) rfl
    have hm := mid _ hf
    rw [hs] at hm
    refine key _ 8 (by unfold fq; rw [if_pos rfl, hq]; rfl) hm ?_
    rw [hsize, hf]
    simp only [ByteArray.size_append, hs]
    omega

theorem fixT_inj4 (a b : Int) (ha0 : 0 ≤ a) (ha : a < 4294967296) (hb0 : 0 ≤ b) (hb : b < 4294967296) (h : fixT a 4 = fixT b 4) : a = b := by
  have h256 : (256 : Int) ^ (4 : Int).toNat = 4294967296 := by decide
  have e := congrArg bytesOf h
  rw [bytesOf_fixT a 4 ha0 (by decide) (by decide) (by omega), bytesOf_fixT b 4 hb0 (by decide) (by decide) (by omega)] at e
  have e2 := congrArg le e
  rw [le_fixL _ _ ha0 (by omega), le_fixL _ _ hb0 (by omega)] at e2
  exact e2
theorem sizedT_inj (p q n m : Int) (hn0 : 0 ≤ n) (hn : n < 4294967296) (hm0 : 0 ≤ m) (hm : m < 4294967296) (h : sizedT p n = sizedT q m) : n = m ∧ sumOf (fixT p 8 ++ fixT n 4) = sumOf (fixT q 8 ++ fixT m 4) := by
  unfold sizedT at h
  have e1 := ByteArray.append_inj_left h (by rw [fixT4_size n hn0 hn, fixT4_size m hm0 hm])
  have e2 := fixT_inj4 n m hn0 hn hm0 hm e1
  subst e2
  rw [ByteArray.append_right_inj] at h
  have r1 := sumMore_range 0 (fixT p 8 ++ fixT n 4)
  have r2 := sumMore_range 0 (fixT q 8 ++ fixT n 4)
  exact ⟨rfl, fixT_inj4 _ _ r1.1 r1.2 r2.1 r2.2 h⟩
theorem sizedT_size (p n : Int) (hn0 : 0 ≤ n) (hn : n < 4294967296) : (sizedT p n).size = 8 := by
  unfold sizedT
  have h7 := sumMore_range 0 (fixT p 8 ++ fixT n 4)
  have h9 := fixT4_size (sumOf (fixT p 8 ++ fixT n 4)) h7.1 h7.2
  rw [ByteArray.size_append, fixT4_size _ hn0 hn, h9]
theorem hasAt_head (t u v : ByteArray) (n : Nat) (ht : t.size = n) (hv : v.size = n) (x y : ByteArray) (a : Int) (ha : a = x.size) (h : hasAt (x ++ (t ++ u)) a (v ++ y) = true) : t = v := by
  obtain ⟨h0, h1, h2⟩ := (hasAt_iff _ _ _).1 h
  subst ha
  rw [Int.toNat_natCast] at h2
  have e := congrArg bytesOf h2
  rw [extract_seg] at e
  have e2 := congrArg (List.take n) e
  unfold seg at e2
  rw [List.take_take, bytesOf_append, List.drop_left' (bytesOf_length x), bytesOf_append, bytesOf_append, Nat.min_eq_left (by rw [ByteArray.size_append]; omega),
    List.take_left' (by rw [bytesOf_length, ht]), List.take_left' (by rw [bytesOf_length, hv])] at e2
  exact bytesOf_inj e2
theorem places_78 : ∀ n : Fin 61, sumOf (fixT 7 8 ++ fixT (n.val : Int) 4) ≠ sumOf (fixT 8 8 ++ fixT (n.val : Int) 4) := by decide +kernel
/-- A frame of the newer form is of one place alone. -/
theorem frame_78 (r : ByteArray) : ¬ (rFrame 2 8 (frameT 2 7 r) 0).2.2 = true := by
  intro h
  obtain ⟨hv, hp, _, hsz, _, hat, _, hle⟩ := rFrame_ok _ _ _ _ h
  generalize (rFrame 2 8 (frameT 2 7 r) 0).1 = r' at hsz hat
  have hv2 : verOk 2 := .inr rfl
  by_cases hr : r.size ≤ 60
  · have e7 : frameT 2 7 r = sizedT 7 r.size ++ (r ++ fixT (sumOf r) 4) := by
      unfold frameT
      rw [if_pos ⟨hv2, by decide, hr⟩, if_neg (by decide), ByteArray.append_assoc]
    have e8 : frameT 2 8 r' = sizedT 8 r'.size ++ (r' ++ fixT (sumOf r') 4) := by
      unfold frameT
      rw [if_pos ⟨hv2, by decide, hsz⟩, if_neg (by decide), ByteArray.append_assoc]
    rw [e7, e8, show sizedT 7 r.size ++ (r ++ fixT (sumOf r) 4) = ⟨#[]⟩ ++ (sizedT 7 r.size ++ (r ++ fixT (sumOf r) 4)) from ByteArray.empty_append.symm] at hat
    have e := hasAt_head _ _ _ 8 (sizedT_size 7 r.size (by omega) (by omega)) (sizedT_size 8 r'.size (by omega) (by omega)) ⟨#[]⟩ _ 0 rfl hat
    obtain ⟨e1, e2⟩ := sizedT_inj 7 8 r.size r'.size (by omega) (by omega) (by omega) (by omega) e
    rw [← e1] at e2
    exact places_78 ⟨r.size, by omega⟩ e2
  · have e7 : frameT 2 7 r = ⟨#[]⟩ := by
      unfold frameT
      rw [if_neg (fun x => hr x.2.2)]
    rw [e7] at hat
    have := (hasAt_iff _ _ _).1 hat
    have h5 := frameT_pos 2 8 r' hv2 (by decide) hsz
    have h6 : (⟨#[]⟩ : ByteArray).size = 0 := rfl
    omega

/-! ### scans -/
def scanGo (v base : Int) (b : ByteArray) : Nat → List ByteArray → List Int → Int → List ByteArray × List Int × Int × Bool
  | 0, rs, os, e => (rs, os, e, false)
  | d + 1, rs, os, e =>
    if markAt v (base + rs.length) b e = true then (rs, os, e, true)
    else if (rFrame v (base + rs.length) b e).2.2 = true then scanGo v base b d (rs ++ [(rFrame v (base + rs.length) b e).1]) (os ++ [e]) (rFrame v (base + rs.length) b e).2.1
    else (rs, os, e, false)
/-- What is told of a file: its head's numbers, its records, where they begin, where the last one ends, whether it is marked. -/
def scan (b : ByteArray) : Bool × Int × Int × Int × Int × List ByteArray × List Int × Int × Bool :=
  if (rHead b).2.2.2.2 = true then (true, (rHead b).1, (rHead b).2.1, (rHead b).2.2.1, (rHead b).2.2.2.1, scanGo (rHead b).1 (rHead b).2.2.1 b (b.size + 1) [] [] 24)
  else (false, 0, 0, 0, 0, [], [], 0, false)
/-- What holds of a scan's state. -/
def ScInv (b : ByteArray) (rs : List ByteArray) (os : List Int) (e : Int) : Prop :=
  rs.length = os.length ∧ 24 ≤ e ∧ e ≤ b.size ∧ 24 + 5 * (rs.length : Int) ≤ e ∧ (∀ r ∈ rs, r.size ≤ 60) ∧ ∀ o ∈ os, 0 ≤ o ∧ o ≤ b.size
theorem scInv_step (v base : Int) (b : ByteArray) (rs : List ByteArray) (os : List Int) (e : Int) (h : ScInv b rs os e) (hf : (rFrame v (base + rs.length) b e).2.2 = true) :
    ScInv b (rs ++ [(rFrame v (base + rs.length) b e).1]) (os ++ [e]) (rFrame v (base + rs.length) b e).2.1 := by
  obtain ⟨h1, h2, h3, h4, h5, h6⟩ := h
  obtain ⟨_, _, _, k1, _, _, k2, k3⟩ := rFrame_ok _ _ _ _ hf
  refine ⟨by simp [h1], by omega, k3, by simp only [List.length_append, List.length_singleton]; omega, ?_, ?_⟩
  · intro r hr
    rcases List.mem_append.1 hr with hr | hr
    · exact h5 r hr
    · rw [List.mem_singleton.1 hr]; exact k1
  · intro o ho
    rcases List.mem_append.1 ho with ho | ho
    · exact h6 o ho
    · rw [List.mem_singleton.1 ho]; omega
theorem scanGo_inv (v base : Int) (b : ByteArray) : ∀ (d : Nat) (rs : List ByteArray) (os : List Int) (e : Int), ScInv b rs os e →
    ScInv b (scanGo v base b d rs os e).1 (scanGo v base b d rs os e).2.1 (scanGo v base b d rs os e).2.2.1
  | 0, rs, os, e, h => h
  | d + 1, rs, os, e, h => by
    unfold scanGo
    split
    · exact h
    · split
      · rename_i hf
        exact scanGo_inv v base b d _ _ _ (scInv_step v base b rs os e h hf)
      · exact h
theorem scan_inv (b : ByteArray) (h : (scan b).1 = true) : ScInv b (scan b).2.2.2.2.2.1 (scan b).2.2.2.2.2.2.1 (scan b).2.2.2.2.2.2.2.1 := by
  unfold scan at h ⊢
  split at h
  · rename_i h1
    rw [if_pos h1]
    have := (rHead_ok b h1).1
    exact scanGo_inv _ _ _ _ _ _ _ ⟨rfl, by omega, by omega, by simp, by simp, by simp⟩
  · simp at h
theorem scan_no (b : ByteArray) (h : ¬ (scan b).1 = true) : scan b = (false, 0, 0, 0, 0, [], [], 0, false) := by
  unfold scan at h ⊢
  split at h
  · simp at h
  · rename_i h1
    rw [if_neg h1]
theorem scan_head (b : ByteArray) (h : (scan b).1 = true) : (rHead b).2.2.2.2 = true ∧ (scan b).2.1 = (rHead b).1 ∧ (scan b).2.2.1 = (rHead b).2.1 ∧ (scan b).2.2.2.1 = (rHead b).2.2.1 ∧ (scan b).2.2.2.2.1 = (rHead b).2.2.2.1 := by
  unfold scan at h ⊢
  split at h
  · rename_i h1
    rw [if_pos h1]
    exact ⟨h1, rfl, rfl, rfl, rfl⟩
  · simp at h
theorem scan_recsLen (b : ByteArray) : ((scan b).2.2.2.2.2.1.length : Int) ≤ b.size := by
  by_cases h : (scan b).1 = true
  · obtain ⟨_, h2, h3, h4, _⟩ := scan_inv b h
    omega
  · rw [scan_no b h]
    exact Int.natCast_nonneg _
theorem scan_offsLen (b : ByteArray) : ((scan b).2.2.2.2.2.2.1.length : Int) ≤ b.size := by
  by_cases h : (scan b).1 = true
  · obtain ⟨h1, h2, h3, h4, _⟩ := scan_inv b h
    omega
  · rw [scan_no b h]
    exact Int.natCast_nonneg _
end Go.Proofs.Ytbbbnedaeiddiaa.Mth
