/- The texts of this claim, part 3: a small logic of plain values for the model's runs, what it says of the functions, in plain values. -/
import Derived.Below
import Derived.ChangeArms
import Derived.ChangeShapes
import Derived.WideShapes
import Derived.Test.YtaifdajdopghoaaPvB0
import Derived.Test.YtaifdajdopghoaaPvB1
import Derived.Test.YtaifdajdopghoaaPvB2
/- Plain mathematics, fifth part: texts back from scans, scans of frames, sealed files. No program in it. -/
namespace Go.Mth
open Go.RowKit
set_option linter.unusedVariables false
set_option linter.unusedSimpArgs false

/-! ### frames -/
theorem frGo_snoc (v b : Int) : ∀ (l : List ByteArray) (t : ByteArray) (os : List Int) (r : ByteArray), frGo v b t os (l ++ [r]) = ((frGo v b t os l).1 ++ frameT v (b + (frGo v b t os l).2.length) r, (frGo v b t os l).2 ++ [((frGo v b t os l).1.size : Int)])
  | [], t, os, r => rfl
  | x :: l, t, os, r => by
    rw [List.cons_append]
    show frGo v b (t ++ frameT v (b + os.length) x) (os ++ [(t.size : Int)]) (l ++ [r]) = _
    rw [frGo_snoc v b l]; rfl
theorem frGo_pre (v b : Int) : ∀ (l : List ByteArray) (t : ByteArray) (os : List Int), ∃ z o, (frGo v b t os l).1 = t ++ z ∧ (frGo v b t os l).2 = os ++ o
  | [], t, os => ⟨⟨#[]⟩, [], (ByteArray.append_empty).symm, (List.append_nil _).symm⟩
  | x :: l, t, os => by
    obtain ⟨z, o, h1, h2⟩ := frGo_pre v b l (t ++ frameT v (b + os.length) x) (os ++ [(t.size : Int)])
    exact ⟨frameT v (b + os.length) x ++ z, [(t.size : Int)] ++ o, by show (frGo v b (t ++ frameT v (b + os.length) x) (os ++ [(t.size : Int)]) l).1 = _; rw [h1, ByteArray.append_assoc], by show (frGo v b (t ++ frameT v (b + os.length) x) (os ++ [(t.size : Int)]) l).2 = _; rw [h2, List.append_assoc]⟩
theorem extract_hasAt (b : ByteArray) (a : Int) (t : ByteArray) (h : hasAt b a t = true) : b.extract 0 (a.toNat + t.size) = b.extract 0 a.toNat ++ t := by
  obtain ⟨h0, h1, h2⟩ := (hasAt_iff _ _ _).1 h
  apply bytesOf_inj
  have e := congrArg bytesOf h2
  rw [bytesOf_extract] at e
  rw [bytesOf_append, bytesOf_extract, bytesOf_extract, ← e, List.drop_zero, List.drop_zero]
  have k := (List.take_append_drop a.toNat ((bytesOf b).take (a.toNat + t.size))).symm
  rw [List.take_take, Nat.min_eq_left (by omega)] at k
  exact k

/-! ### texts back from scans -/
theorem scanGo_text (v base : Int) (hd b : ByteArray) : ∀ (d : Nat) (rs : List ByteArray) (os : List Int) (e : Int), 0 ≤ e → rs.length = os.length → frGo v base hd [] rs = (b.extract 0 e.toNat, os) → e ≤ b.size →
    frGo v base hd [] (scanGo v base b d rs os e).1 = (b.extract 0 (scanGo v base b d rs os e).2.2.1.toNat, (scanGo v base b d rs os e).2.1)
  | 0, rs, os, e, _, _, h, _ => h
  | d + 1, rs, os, e, h0, hl, h, he => by
    unfold scanGo
    split
    · exact h
    · split
      · rename_i hf
        obtain ⟨_, _, k0, k1, k2, k3, k4, k5⟩ := rFrame_ok _ _ _ _ hf
        refine scanGo_text v base hd b d _ _ _ (by omega) (by simp [hl]) ?_ k5
        rw [frGo_snoc, h]
        simp only
        rw [← hl, k2, Int.toNat_add k0 (by omega), Int.toNat_natCast, extract_hasAt b e _ k3]
        congr 2
        rw [ByteArray.size_extract]
        have : min e.toNat b.size - 0 = e.toNat := by omega
        rw [this]
        simp [Int.toNat_of_nonneg h0]
      · exact h
theorem scan_text (b : ByteArray) (h : (scan b).1 = true) : frGo (scan b).2.1 (scan b).2.2.2.1 (headT (scan b).2.1 (scan b).2.2.1 (scan b).2.2.2.1 (scan b).2.2.2.2.1) [] (scan b).2.2.2.2.2.1 = (b.extract 0 (scan b).2.2.2.2.2.2.2.1.toNat, (scan b).2.2.2.2.2.2.1) := by
  unfold scan at h ⊢
  split at h
  · rename_i h1
    rw [if_pos h1]
    obtain ⟨k1, k2, k3⟩ := rHead_ok b h1
    exact scanGo_text _ _ _ b _ [] [] 24 (by decide) rfl (by rw [k3]; rfl) (by omega)
  · cases h

/-! ### scans of frames -/
theorem var_255 : ∀ n : Fin 61, varT (n.val : Int) ≠ ⟨#[255]⟩ ∧ (varT (n.val : Int)).size = 1 := by decide +kernel
theorem noMark (v p : Int) (r x y : ByteArray) (hv : verOk v) (hp : numOk p) (hr : r.size ≤ 60) : markAt v p (x ++ frameT v p r ++ y) x.size = false := by
  rw [Bool.eq_false_iff]
  intro h
  unfold markAt at h
  rw [Bool.and_eq_true] at h
  have h2 := h.2
  unfold frameT at h2
  rw [if_pos ⟨hv, hp, hr⟩] at h2
  unfold endMark at h2
  rw [if_pos (⟨hv, hp⟩ : verOk v ∧ numOk p)] at h2
  by_cases h1 : v = 1
  · rw [if_pos h1, if_pos h1] at h2
    obtain ⟨k1, k2⟩ := var_255 ⟨r.size, by omega⟩
    refine k1 (hasAt_head (varT r.size) (r ++ fixT (sumOf r) 4 ++ y) ⟨#[255]⟩ 1 k2 rfl x ⟨#[255, 255, 255, 15]⟩ x.size rfl ?_)
    have e1 : (⟨#[255]⟩ : ByteArray) ++ ⟨#[255, 255, 255, 15]⟩ = ⟨#[255, 255, 255, 255, 15]⟩ := rfl
    rw [e1]
    simpa only [ByteArray.append_assoc] using h2
  · rw [if_neg h1, if_neg h1] at h2
    have e := hasAt_head (fixT r.size 4) (fixT (sumOf (fixT p 8 ++ fixT r.size 4)) 4 ++ r ++ fixT (sumOf r) 4 ++ y) (fixT 4294967295 4) 4 (fixT4_size _ (by omega) (by omega)) (fixT4_size _ (by decide) (by decide)) x (fixT (sumOf (fixT p 8 ++ fixT 4294967295 4)) 4) x.size rfl (by
      unfold sizedT at h2
      simpa only [ByteArray.append_assoc] using h2)
    have := fixT_inj4 r.size 4294967295 (by omega) (by omega) (by decide) (by decide) e
    omega
theorem scanGo_frames (v base : Int) (hv : verOk v) (y : ByteArray) : ∀ (l : List ByteArray) (t : ByteArray) (os : List Int) (rs : List ByteArray) (d : Nat), rs.length = os.length → 0 ≤ base → base + (os.length + l.length) ≤ 1000000000 → (∀ r ∈ l, r.size ≤ 60) →
    scanGo v base ((frGo v base t os l).1 ++ y) (d + l.length) rs os t.size = scanGo v base ((frGo v base t os l).1 ++ y) d (rs ++ l) (frGo v base t os l).2 ((frGo v base t os l).1.size : Int)
  | [], t, os, rs, d, _, _, _, _ => by simp [frGo]
  | r :: l, t, os, rs, d, hl, hb, hn, hr => by
    have hp : numOk (base + (os.length : Int)) := ⟨by omega, by rw [List.length_cons] at hn; omega⟩
    obtain ⟨z, o, h1, h2⟩ := frGo_pre v base l (t ++ frameT v (base + os.length) r) (os ++ [(t.size : Int)])
    have e : frGo v base t os (r :: l) = frGo v base (t ++ frameT v (base + os.length) r) (os ++ [(t.size : Int)]) l := rfl
    rw [e]
    have hb1 : (frGo v base (t ++ frameT v (base + os.length) r) (os ++ [(t.size : Int)]) l).1 ++ y = t ++ frameT v (base + os.length) r ++ (z ++ y) := by rw [h1, ByteArray.append_assoc]
    have ih := scanGo_frames v base hv y l (t ++ frameT v (base + os.length) r) (os ++ [(t.size : Int)]) (rs ++ [r]) d (by simp [hl]) hb (by rw [List.length_append, List.length_singleton]; rw [List.length_cons] at hn; omega) (fun x hx => hr x (List.mem_cons_of_mem _ hx))
    rw [show d + (r :: l).length = (d + l.length) + 1 by rw [List.length_cons]; omega]
    have hm := noMark v (base + os.length) r t (z ++ y) hv hp (hr r List.mem_cons_self)
    have hf := rFrame_mid v (base + os.length) r t (z ++ y) hv hp (hr r List.mem_cons_self)
    rw [scanGo, hl, hb1, hm, if_neg (by decide), hf, if_pos rfl]
    rw [hb1] at ih
    rw [ByteArray.size_append, Int.natCast_add] at ih
    rw [ih, List.append_assoc]; rfl
theorem scan_frames (v s b l : Int) (rs : List ByteArray) (y : ByteArray) (hk : headOk v s b l) (hn : b + rs.length ≤ 1000000000) (hr : ∀ r ∈ rs, r.size ≤ 60) :
    ∃ d, scan ((frGo v b (headT v s b l) [] rs).1 ++ y) = (true, v, s, b, l, scanGo v b ((frGo v b (headT v s b l) [] rs).1 ++ y) (d + 1) rs (frGo v b (headT v s b l) [] rs).2 ((frGo v b (headT v s b l) [] rs).1.size : Int)) := by
  obtain ⟨z, o, h1, h2⟩ := frGo_pre v b rs (headT v s b l) []
  have hsz := headT_size v s b l hk
  have hle : rs.length ≤ z.size := by
    have : ∀ (l : List ByteArray) (t : ByteArray) (os : List Int), b + (os.length + l.length) ≤ 1000000000 → (∀ r ∈ l, r.size ≤ 60) → t.size + l.length ≤ (frGo v b t os l).1.size := fun l => by
      induction l with
      | nil => intro t os _ _; exact Nat.le_refl _
      | cons r l ih =>
        intro t os h3 h4
        have h5 := ih (t ++ frameT v (b + os.length) r) (os ++ [(t.size : Int)]) (by rw [List.length_append, List.length_singleton]; rw [List.length_cons] at h3; omega) (fun x hx => h4 x (List.mem_cons_of_mem _ hx))
        have h6 := frameT_pos v (b + os.length) r hk.1 ⟨by have := hk.2.2.1.1; omega, by rw [List.length_cons] at h3; omega⟩ (h4 r List.mem_cons_self)
        rw [ByteArray.size_append] at h5
        show _ ≤ (frGo v b (t ++ frameT v (b + os.length) r) (os ++ [(t.size : Int)]) l).1.size
        rw [List.length_cons]
        omega
    have h3 := this rs (headT v s b l) [] (by simp only [List.length_nil]; omega) hr
    rw [h1, ByteArray.size_append] at h3
    omega
  have hmk := rHead_mk v s b l hk (z ++ y)
  refine ⟨((frGo v b (headT v s b l) [] rs).1 ++ y).size - rs.length, ?_⟩
  have e : (frGo v b (headT v s b l) [] rs).1 ++ y = headT v s b l ++ (z ++ y) := by rw [h1, ByteArray.append_assoc]
  unfold scan
  rw [e, hmk, if_pos rfl, ← e]
  dsimp only
  have ht := scanGo_frames v b hk.1 y rs (headT v s b l) [] [] (((frGo v b (headT v s b l) [] rs).1 ++ y).size - rs.length + 1) rfl hk.2.2.1.1 (by simp only [List.length_nil]; omega) hr
  have h24 : (((headT v s b l).size : Nat) : Int) = 24 := by rw [hsz]; rfl
  rw [h24] at ht
  have hsz2 : rs.length ≤ ((frGo v b (headT v s b l) [] rs).1 ++ y).size := by rw [h1, ByteArray.size_append, ByteArray.size_append]; omega
  rw [show ((frGo v b (headT v s b l) [] rs).1 ++ y).size - rs.length + 1 + rs.length = ((frGo v b (headT v s b l) [] rs).1 ++ y).size + 1 by omega] at ht
  rw [ht]; rfl
/-- A mark stands behind the frames. -/
theorem scan_marked (v s b l : Int) (rs : List ByteArray) (y : ByteArray) (hk : headOk v s b l) (hn : b + rs.length ≤ 1000000000) (hr : ∀ r ∈ rs, r.size ≤ 60) (x : ByteArray) (hy : y = endMark v (b + rs.length) ++ x) :
    scan ((frGo v b (headT v s b l) [] rs).1 ++ y) = (true, v, s, b, l, rs, (frGo v b (headT v s b l) [] rs).2, ((frGo v b (headT v s b l) [] rs).1.size : Int), true) := by
  obtain ⟨d, h⟩ := scan_frames v s b l rs y hk hn hr
  rw [h]
  have hp : numOk (b + (rs.length : Int)) := ⟨by have := hk.2.2.1.1; omega, hn⟩
  have hm : markAt v (b + rs.length) ((frGo v b (headT v s b l) [] rs).1 ++ y) ((frGo v b (headT v s b l) [] rs).1.size : Int) = true := by
    unfold markAt
    have := endMark_ge v (b + rs.length) hk.1 hp
    rw [Bool.and_eq_true]
    refine ⟨decide_eq_true (by omega), ?_⟩
    rw [hy, ← ByteArray.append_assoc]
    exact hasAt_mid _ _ _
  rw [scanGo, hm, if_pos rfl]

/-! ### feet are there -/
def okO : Int → List Int → Prop
  | _, [] => True
  | a, x :: l => a ≤ x ∧ x ≤ 1000000000 ∧ okO x l
def okP : Int → Int → List (Int × Int) → Prop
  | _, _, [] => True
  | c, a, p :: l => c ≤ p.1 ∧ p.1 ≤ 1000000000 ∧ a ≤ p.2 ∧ p.2 ≤ 1000000000 ∧ okP p.1 p.2 l
theorem okO_le {a a' : Int} (h : a' ≤ a) : ∀ {l : List Int}, okO a l → okO a' l
  | [], _ => trivial
  | x :: l, ⟨h1, h2, h3⟩ => ⟨by omega, h2, h3⟩
theorem okP_le {c c' a a' : Int} (h : c' ≤ c) (h' : a' ≤ a) : ∀ {l : List (Int × Int)}, okP c a l → okP c' a' l
  | [], _ => trivial
  | x :: l, ⟨h1, h2, h3, h4, h5⟩ => ⟨by omega, h2, by omega, h4, h5⟩
theorem okP_cons {c a : Int} {p : Int × Int} {l : List (Int × Int)} (h1 : c ≤ p.1) (h2 : p.1 ≤ 1000000000) (h3 : a ≤ p.2) (h4 : p.2 ≤ 1000000000) (h5 : okP p.1 p.2 l) : okP c a (p :: l) := ⟨h1, h2, h3, h4, h5⟩
theorem okO_out {a x : Int} {l : List Int} (h : okO a (x :: l)) : a ≤ x ∧ x ≤ 1000000000 ∧ okO x l := h
theorem plc_ok (s : Int) (l : List Int) : ∀ (i : Nat) (a : Int), okO a l → (i : Int) + (l.length : Int) ≤ 1000000000 → okP i a (plc (fun a b => (a, b)) s l i) := by
  induction l with
  | nil => intro i a _ _; exact trivial
  | cons x l ih =>
    intro i a h hi
    obtain ⟨h1, h2, h3⟩ := okO_out h
    rw [List.length_cons] at hi
    have ih := ih (i + 1) x h3 (by omega)
    unfold plc
    split
    · exact okP_cons (Int.le_refl _) (by simp only; omega) h1 h2 (okP_le (by simp only; omega) (Int.le_refl _) ih)
    · exact okP_le (by omega) h1 ih
theorem upT_pos (a b : Int) (h : b ≤ a) (h2 : a - b ≤ 1000000000) : 0 < (upT a b).size := by
  unfold upT
  rw [if_pos ⟨h, h2⟩]
  exact varT_pos _ (by omega) h2
theorem plGo_pos : ∀ (l : List (Int × Int)) (o : ByteArray) (c a : Int), 0 ≤ c → 0 ≤ a → okP c a l → 0 < o.size → 0 < (plGo o c a l).size
  | [], o, c, a, _, _, _, h => h
  | p :: l, o, c, a, hc, ha, ⟨h1, h2, h3, h4, h5⟩, h => by
    have k1 := upT_pos p.1 c h1 (by omega)
    have k2 := upT_pos p.2 a h3 (by omega)
    unfold plGo
    rw [if_neg (by omega)]
    exact plGo_pos l _ _ _ (by omega) (by omega) h5 (by rw [ByteArray.size_append, ByteArray.size_append]; omega)
theorem placesT_pos (s : Int) (os : List Int) (h : okO 0 os) (hl : os.length ≤ 1000000000) : 0 < (placesT (placesP s os)).size := by
  unfold placesT
  have hle : (placesP s os).length ≤ os.length := placesOf_le _ _ _
  refine plGo_pos _ _ 0 0 (by decide) (by decide) ?_ (varT_pos _ (by omega) (by omega))
  unfold placesP placesOf
  split
  · trivial
  · exact plc_ok s os 0 0 h (by omega)
theorem frGo_ok (v b : Int) : ∀ (l : List ByteArray) (t : ByteArray) (os : List Int), t.size + 84 * l.length ≤ 1000000000 → ∃ o, (frGo v b t os l).2 = os ++ o ∧ okO t.size o
  | [], t, os, _ => ⟨[], (List.append_nil _).symm, trivial⟩
  | r :: l, t, os, h => by
    have hf := frameT_le v (b + os.length) r
    rw [List.length_cons] at h
    obtain ⟨o, h1, h2⟩ := frGo_ok v b l (t ++ frameT v (b + os.length) r) (os ++ [(t.size : Int)]) (by rw [ByteArray.size_append]; omega)
    refine ⟨(t.size : Int) :: o, ?_, Int.le_refl _, by omega, okO_le (by rw [ByteArray.size_append]; omega) h2⟩
    show (frGo v b (t ++ frameT v (b + os.length) r) (os ++ [(t.size : Int)]) l).2 = _
    rw [h1, List.append_assoc]; rfl
theorem trailT_pos (a b c d : Int) (ha : 0 ≤ a ∧ a < 4294967296) (hb : 0 ≤ b ∧ b < 4294967296) (hc : 0 ≤ c ∧ c < 4294967296) (hd : 0 ≤ d ∧ d < 4294967296) : trailT a b c d = fixT a 4 ++ fixT b 4 ++ fixT c 4 ++ fixT d 4 ++ ⟨#[73, 68, 88, 33]⟩ ∧ (trailT a b c d).size = 20 := by
  have h1 := fixT4_size a ha.1 ha.2
  have h2 := fixT4_size b hb.1 hb.2
  have h3 := fixT4_size c hc.1 hc.2
  have h4 := fixT4_size d hd.1 hd.2
  have e : trailT a b c d = fixT a 4 ++ fixT b 4 ++ fixT c 4 ++ fixT d 4 ++ ⟨#[73, 68, 88, 33]⟩ := by
    unfold trailT trailGo
    rw [if_neg (by omega)]
    unfold trailGo
    rw [if_neg (by omega)]
    unfold trailGo
    rw [if_neg (by omega)]
    unfold trailGo
    rw [if_neg (by omega)]
    unfold trailGo
    rw [show (⟨#[]⟩ : ByteArray) ++ fixT a 4 = fixT a 4 from ByteArray.empty_append]
  refine ⟨e, ?_⟩
  rw [e]
  simp only [ByteArray.size_append, h1, h2, h3, h4]
  rfl
theorem foot_ok (v s b l : Int) (os : List Int) (e : Int) (hk : headOk v s b l) (hn : b + os.length ≤ 1000000000) (ho : okO 0 os) (he : 0 ≤ e ∧ e < 4294967296) :
    footT v s b l os e = endMark v (b + os.length) ++ (placesT (placesP s os) ++ trailT e os.length s (sumOf (endMark v (b + os.length) ++ placesT (placesP s os) ++ (trailT e os.length s 0).extract 0 12))) := by
  have hp : numOk (b + (os.length : Int)) := ⟨by have := hk.2.2.1.1; omega, hn⟩
  have h1 := endMark_ge v (b + os.length) hk.1 hp
  have h2 := placesT_pos s os ho (by have := hk.2.2.1.1; omega)
  have h3 := (trailT_pos e os.length s 0 he (by have := hk.2.2.1.1; omega) (by have := hk.2.1; omega) (by decide)).2
  unfold footT
  rw [if_pos hk, if_neg (by omega), ByteArray.append_assoc]
theorem seal_ok (v s b l : Int) (rs : List ByteArray) (h : sealOk v s b l rs) : ∃ x, sealT v s b l rs = (frGo v b (headT v s b l) [] rs).1 ++ (endMark v (b + rs.length) ++ x) ∧ 20 ≤ x.size ∧
    footT v s b l (frGo v b (headT v s b l) [] rs).2 (frGo v b (headT v s b l) [] rs).1.size = endMark v (b + rs.length) ++ x := by
  obtain ⟨hk, hl, hn, hr⟩ := id h
  obtain ⟨h1, h2⟩ := frGo_le v b rs (headT v s b l) []
  have h3 := headT_size v s b l hk
  obtain ⟨o, h4, h5⟩ := frGo_ok v b rs (headT v s b l) [] (by omega)
  rw [List.nil_append] at h4
  rw [List.length_nil, Nat.zero_add] at h2
  have hf := foot_ok v s b l (frGo v b (headT v s b l) [] rs).2 (frGo v b (headT v s b l) [] rs).1.size hk (by rw [h2]; exact hn) (by rw [h4]; exact okO_le (by omega) h5) ⟨by omega, by omega⟩
  have h6 := fun q => (trailT_pos ((frGo v b (headT v s b l) [] rs).1.size : Int) (frGo v b (headT v s b l) [] rs).2.length s (sumOf q) (by omega) (by omega) (by have := hk.2.1; omega) (sumMore_range 0 q)).2
  rw [h2] at hf h6
  refine ⟨_, ?_, ?_, hf⟩
  · unfold sealT
    rw [if_pos h, hf]
  · rw [ByteArray.size_append, h6]
    omega
theorem scan_seal (v s b l : Int) (rs : List ByteArray) (h : sealOk v s b l rs) : scan (sealT v s b l rs) = (true, v, s, b, l, rs, (frGo v b (headT v s b l) [] rs).2, ((frGo v b (headT v s b l) [] rs).1.size : Int), true) := by
  obtain ⟨x, h1, _, _⟩ := seal_ok v s b l rs h
  rw [h1]
  exact scan_marked v s b l rs _ h.1 h.2.2.1 h.2.2.2 x rfl
theorem seal_size (v s b l : Int) (rs : List ByteArray) (h : sealOk v s b l rs) : 49 ≤ (sealT v s b l rs).size := by
  obtain ⟨x, h1, h2, _⟩ := seal_ok v s b l rs h
  obtain ⟨z, o, h3, _⟩ := frGo_pre v b rs (headT v s b l) []
  have h4 := headT_size v s b l h.1
  have h5 := endMark_ge v (b + rs.length) h.1.1 ⟨by have := h.1.2.2.1.1; omega, h.2.2.1⟩
  rw [h1, h3]
  simp only [ByteArray.size_append]
  omega
theorem seal_no (v s b l : Int) (rs : List ByteArray) (h : ¬ sealOk v s b l rs) : sealT v s b l rs = ⟨#[]⟩ := if_neg h
theorem seal_iff (v s b l : Int) (rs : List ByteArray) : (sealT v s b l rs).size = 0 ↔ ¬ sealOk v s b l rs := by
  constructor
  · intro h k; have := seal_size v s b l rs k; omega
  · intro h; rw [seal_no _ _ _ _ _ h]; rfl

/-! ### sealed files read -/
abbrev Sc := Bool × Int × Int × Int × Int × List ByteArray × List Int × Int × Bool
def scSeal (t : Sc) : ByteArray := sealT t.2.1 t.2.2.1 t.2.2.2.1 t.2.2.2.2.1 t.2.2.2.2.2.1
def sealedB (b : ByteArray) : Bool := (scan b).1 && decide (scSeal (scan b) = b)
/-- The head and the records of a sealed file. -/
def rSealed (b : ByteArray) : (Int × Int × Int × Int) × List ByteArray × Bool :=
  if sealedB b = true then (((scan b).2.1, (scan b).2.2.1, (scan b).2.2.2.1, (scan b).2.2.2.2.1), (scan b).2.2.2.2.2.1, true) else ((0, 0, 0, 0), [], false)
theorem sealed_ok (b : ByteArray) (h : sealedB b = true) : (scan b).1 = true ∧ scSeal (scan b) = b ∧ sealOk (scan b).2.1 (scan b).2.2.1 (scan b).2.2.2.1 (scan b).2.2.2.2.1 (scan b).2.2.2.2.2.1 ∧ (scan b).2.2.2.2.2.2.2.2 = true := by
  unfold sealedB at h
  rw [Bool.and_eq_true, decide_eq_true_eq] at h
  obtain ⟨h1, h2⟩ := h
  have h3 := (scan_head b h1).1
  have h4 := (rHead_ok b h3).1
  have hs : sealOk (scan b).2.1 (scan b).2.2.1 (scan b).2.2.2.1 (scan b).2.2.2.2.1 (scan b).2.2.2.2.2.1 := Decidable.byContradiction fun k => by
    have := (seal_iff _ _ _ _ _).2 k
    unfold scSeal at h2
    rw [h2] at this
    omega
  refine ⟨h1, h2, hs, ?_⟩
  have := scan_seal _ _ _ _ _ hs
  unfold scSeal at h2
  rw [h2] at this
  rw [this]
theorem sealed_seal (v s b l : Int) (rs : List ByteArray) (h : sealOk v s b l rs) : sealedB (sealT v s b l rs) = true := by
  unfold sealedB scSeal
  rw [scan_seal v s b l rs h]
  simp
/-- What is known of a scan of a text of n bytes. -/
def ScF (n : Nat) (t : Sc) : Prop :=
  (t.1 = true → headOk t.2.1 t.2.2.1 t.2.2.2.1 t.2.2.2.2.1 ∧ 24 ≤ t.2.2.2.2.2.2.2.1) ∧ (t.1 = false → t = (false, 0, 0, 0, 0, [], [], 0, false)) ∧ (0 ≤ t.2.2.2.1 ∧ t.2.2.2.1 ≤ 1000000000) ∧ t.2.2.2.2.2.2.1.length = t.2.2.2.2.2.1.length ∧ t.2.2.2.2.2.1.length ≤ n ∧
    (∀ r ∈ t.2.2.2.2.2.1, r.size ≤ 60) ∧ (∀ o ∈ t.2.2.2.2.2.2.1, 0 ≤ o ∧ o ≤ n) ∧ 0 ≤ t.2.2.2.2.2.2.2.1 ∧ t.2.2.2.2.2.2.2.1 ≤ n
theorem scan_f (b : ByteArray) : ScF b.size (scan b) := by
  by_cases h : (scan b).1 = true
  · obtain ⟨h1, h2, h3, h4, h5, h6⟩ := scan_inv b h
    obtain ⟨k1, k2, k3, k4, k5⟩ := scan_head b h
    have hk := (rHead_ok b k1).2.1
    rw [← k2, ← k3, ← k4, ← k5] at hk
    exact ⟨fun _ => ⟨hk, h2⟩, (fun e => by rw [h] at e; cases e), hk.2.2.1, h1.symm, by omega, h5, h6, by omega, h3⟩
  · have e := scan_no b h
    rw [e]
    exact ⟨fun h => Bool.noConfusion h, fun _ => rfl, ⟨by decide, by decide⟩, rfl, Nat.zero_le _, fun _ h => absurd h (by simp), fun _ h => absurd h (by simp), Int.le_refl _, Int.natCast_nonneg _⟩
end Go.Mth

/- What functions of the program and of the reference do, in plain values. -/
namespace Go.Pv
open Go.Proofs Go.Mth
set_option linter.unusedSimpArgs false
set_option linter.unusedVariables false
set_option maxHeartbeats 4000000

/-! ### lists of places, feet, sealed files -/
theorem upT_size0 {a b : Int} (h : ¬ (upT a b).size = 0) : b ≤ a := Decidable.byContradiction fun q => h (by rw [upT_no fun x => q x.1]; rfl)
theorem impl_PlacesText (ps : List (Int × Int)) (hl : ps.length ≤ 1000000000) (hp : ∀ p ∈ ps, i64 p.1 ∧ i64 p.2) : Fn Try.prog 48 [.far (ps.map plP)] [] (.str (placesT ps)) [] := by
  have b1 := varT_le ps.length
  have b2 := varT_pos ps.length (by omega) (by omega)
  refine fn_x tok (n := 44) (rs := [.tmp 2]) Try.func48 (by decide) rfl rfl rfl rfl ?_
  (try simp (maxSteps := 1000000) (disch := first | omega | (simp only [LN, numOk, verOk, rfP, rvP, rhP, frP, blH, bytesOf_length] <;> omega) | exact Ck.mk rfl) only [VC, T, Nat.reduceMul, Nat.reduceAdd, Nat.reduceSub, Nat.reduceLT, Nat.reduceEqDiff, Nat.reduceLeDiff, Nat.reduceBEq, reduceCtorEq, Int.reduceToNat, ↓reduceIte, rfP, rvP, rhP, frP, blH, bytesOf_length])
  repeat' (first
    | (refine br_go (fun e f => ?_) (fun e f => ?_) <;> (try simp only [BB] at f) <;> (try simp only [numOk, verOk] at f) <;> (try simp (maxSteps := 1000000) (disch := first | omega | (simp only [LN, numOk, verOk, rfP, rvP, rhP, frP, blH, bytesOf_length] <;> omega) | exact Ck.mk rfl) only [e, VC, T, Nat.reduceMul, Nat.reduceAdd, Nat.reduceSub, Nat.reduceLT, Nat.reduceEqDiff, Nat.reduceLeDiff, Nat.reduceBEq, reduceCtorEq, Int.reduceToNat, ↓reduceIte, rfP, rvP, rhP, frP, blH, bytesOf_length]) <;> (try clear e))
    | (refine pick_go (fun e f => ?_) (fun e f => ?_) <;> (try simp only [BB] at f) <;> (try simp only [numOk, verOk] at f) <;> (try simp (maxSteps := 1000000) (disch := first | omega | (simp only [LN, numOk, verOk, rfP, rvP, rhP, frP, blH, bytesOf_length] <;> omega) | exact Ck.mk rfl) only [e, VC, T, Nat.reduceMul, Nat.reduceAdd, Nat.reduceSub, Nat.reduceLT, Nat.reduceEqDiff, Nat.reduceLeDiff, Nat.reduceBEq, reduceCtorEq, Int.reduceToNat, ↓reduceIte, rfP, rvP, rhP, frP, blH, bytesOf_length]) <;> (try clear e))
    | ((first | refine call_x (impl_VarText _) rfl ⟨rfl⟩ ?_ | (refine call_h [256] [] (Builder_Write0 _ (by omega) (by omega)) (by decide) rfl rfl ?_; rintro _ _ ⟨rfl, rfl⟩)); (try simp (maxSteps := 1000000) (disch := first | omega | (simp only [LN, numOk, verOk, rfP, rvP, rhP, frP, blH, bytesOf_length] <;> omega) | exact Ck.mk rfl) only [VC, T, Nat.reduceMul, Nat.reduceAdd, Nat.reduceSub, Nat.reduceLT, Nat.reduceEqDiff, Nat.reduceLeDiff, Nat.reduceBEq, reduceCtorEq, Int.reduceToNat, ↓reduceIte, rfP, rvP, rhP, frP, blH, bytesOf_length])))
  refine lp_go (fun x : Nat × ByteArray × Int × Int => ⟨44, [(3, .ref 256 0), (4, .ref 320 0), (15, .far (ps.map plP)), (16, .int .i64 ps.length), (17, .int .i64 x.1)], [(256, .box 81 [.ref 256 0, .row 896 x.2.1.size]), (896, .row ⟨1, 5⟩ ((bytesOf x.2.1).map (.int .u8))), (320, .box 29 [.int .i64 x.2.2.1, .int .i64 x.2.2.2])]⟩) (fun x => x.1 ≤ ps.length ∧ (0 < x.2.1.size ∧ x.2.1.size ≤ 5 + 10 * x.1) ∧ (0 ≤ x.2.2.1 ∧ x.2.2.1 ≤ 9223372036854775807) ∧ (0 ≤ x.2.2.2 ∧ x.2.2.2 ≤ 9223372036854775807) ∧ placesT ps = plGo x.2.1 x.2.2.1 x.2.2.2 (ps.drop x.1)) (fun x => ps.length - x.1) (0, varT ps.length, 0, 0) ?_ ?_ ?_
  · (simp (disch := first | omega | (simp only [LN, numOk, verOk] <;> omega) | exact Ck.mk rfl) only [SB, EQ, Nat.reduceMul, Nat.reduceAdd, Nat.reduceSub, Nat.reduceLT, Nat.reduceEqDiff, Nat.reduceLeDiff, Nat.reduceBEq, reduceCtorEq, Int.reduceToNat, ↓reduceIte]; try omega)
  · exact ⟨Nat.zero_le _, ⟨b2, by simp only; omega⟩, by simp, by simp, rfl⟩
  · rintro ⟨i, o, lc, la⟩ ⟨h1, h2, h3, h4, h5⟩ N hN
    simp only at h1 h2 h3 h4 h5
    have hs := plGo_step ps i
    have hm : i < ps.length → i64 (ps.getD i default).1 ∧ i64 (ps.getD i default).2 := fun h => hp _ (getD_mem _ _ h)
    have s1 := stepT_le (ps.getD i default).1 lc
    have s2 := stepT_le (ps.getD i default).2 la
    have hg : i < ps.length → (ps.map plP).getD i .junk = .agg [.int .i64 (ps.getD i default).1, .int .i64 (ps.getD i default).2] := fun h => by
      rw [List.getD_eq_getElem?_getD, List.getElem?_map, List.getElem?_eq_getElem h, List.getD_eq_getElem?_getD, List.getElem?_eq_getElem h]; rfl
    (try simp (maxSteps := 1000000) (disch := first | omega | (simp only [LN, numOk, verOk, rfP, rvP, rhP, frP, blH, bytesOf_length, hg] <;> omega) | exact Ck.mk rfl) only [VC, T, Nat.reduceMul, Nat.reduceAdd, Nat.reduceSub, Nat.reduceLT, Nat.reduceEqDiff, Nat.reduceLeDiff, Nat.reduceBEq, reduceCtorEq, Int.reduceToNat, ↓reduceIte, rfP, rvP, rhP, frP, blH, bytesOf_length, hg])
    repeat' (first
      | (refine br_go (fun e f => ?_) (fun e f => ?_) <;> (try simp only [BB] at f) <;> (try simp only [numOk, verOk] at f) <;> (try simp (maxSteps := 1000000) (disch := first | omega | (simp only [LN, numOk, verOk, rfP, rvP, rhP, frP, blH, bytesOf_length, hg] <;> omega) | exact Ck.mk rfl) only [e, VC, T, Nat.reduceMul, Nat.reduceAdd, Nat.reduceSub, Nat.reduceLT, Nat.reduceEqDiff, Nat.reduceLeDiff, Nat.reduceBEq, reduceCtorEq, Int.reduceToNat, ↓reduceIte, rfP, rvP, rhP, frP, blH, bytesOf_length, hg]) <;> (try clear e))
      | (refine pick_go (fun e f => ?_) (fun e f => ?_) <;> (try simp only [BB] at f) <;> (try simp only [numOk, verOk] at f) <;> (try simp (maxSteps := 1000000) (disch := first | omega | (simp only [LN, numOk, verOk, rfP, rvP, rhP, frP, blH, bytesOf_length, hg] <;> omega) | exact Ck.mk rfl) only [e, VC, T, Nat.reduceMul, Nat.reduceAdd, Nat.reduceSub, Nat.reduceLT, Nat.reduceEqDiff, Nat.reduceLeDiff, Nat.reduceBEq, reduceCtorEq, Int.reduceToNat, ↓reduceIte, rfP, rvP, rhP, frP, blH, bytesOf_length, hg]) <;> (try clear e))
      | ((first | refine dr_go mixed (id := 7) [([], [6], []), ([0], [21], []), ([], [4], []), ([2], [23], []), ([0, 1, 2, 3], [22, 24], []), ([], [6], []), ([5], [26], []), ([], [4], []), ([7], [28], []), ([0, 1, 2, 3, 4, 5, 6, 7, 8], [27, 29], []), ([0, 1, 2, 3, 4, 5, 6, 7, 8, 9], [25], []), ([0, 1, 2, 3, 4, 5, 6, 7, 8, 9, 10], [30], [])] rfl rfl rfl ?_ | refine call_x (impl_above _ _ (hm (by omega)).1.1 (hm (by omega)).1.2 (by omega) h3.2) rfl ⟨rfl⟩ ?_ | refine call_x (impl_above _ _ (hm (by omega)).2.1 (hm (by omega)).2.2 (by omega) h4.2) rfl ⟨rfl⟩ ?_ | (refine call_h [256, 896] [] (Builder_Write o _ (by omega) (by rw [ByteArray.size_append]; omega)) (by decide) rfl rfl ?_; rintro _ _ ⟨rfl, rfl⟩) | refine call_hx [256, 896] [] (Builder_String o (by omega) (by omega)) (by decide) rfl rfl ?_); (try simp (maxSteps := 1000000) (disch := first | omega | (simp only [LN, numOk, verOk, rfP, rvP, rhP, frP, blH, bytesOf_length, hg] <;> omega) | exact Ck.mk rfl) only [VC, T, Nat.reduceMul, Nat.reduceAdd, Nat.reduceSub, Nat.reduceLT, Nat.reduceEqDiff, Nat.reduceLeDiff, Nat.reduceBEq, reduceCtorEq, Int.reduceToNat, ↓reduceIte, rfP, rvP, rhP, frP, blH, bytesOf_length, hg])))
    · rw [h5, hs (by omega), if_pos (.inl f)]
    · rw [h5, hs (by omega), if_pos (.inr f)]
    · have u1 := upT_size0 (a := (ps.getD i default).1) (b := lc) (by assumption)
      have u2 := upT_size0 f
      have m := hm (by omega)
      unfold i64 at m
      refine hN (i + 1, o ++ upT (ps.getD i default).1 lc ++ upT (ps.getD i default).2 la, (ps.getD i default).1, (ps.getD i default).2) _ ⟨by simp only; omega, ⟨by simp only [ByteArray.size_append]; omega, by simp only [ByteArray.size_append]; omega⟩, ⟨Int.le_trans h3.1 u1, m.1.2⟩, ⟨Int.le_trans h4.1 u2, m.2.2⟩, ?_⟩ (by simp only; omega) ?_
      · rw [h5, hs (by omega), if_neg (by rintro (q | q) <;> simp_all)]
      · (simp (disch := first | omega | (simp only [LN, numOk, verOk] <;> omega) | exact Ck.mk rfl) only [SB, EQ, Nat.reduceMul, Nat.reduceAdd, Nat.reduceSub, Nat.reduceLT, Nat.reduceEqDiff, Nat.reduceLeDiff, Nat.reduceBEq, reduceCtorEq, Int.reduceToNat, ↓reduceIte]; try omega)
        simp only [ByteArray.append_assoc, ByteArray.size_append, Nat.add_assoc, and_self]
    · rw [h5, List.drop_eq_nil_of_le (by omega)]; rfl
theorem plc_mem (s : Int) (os : List Int) : ∀ (l : List Int) (i : Nat), (∀ x ∈ l, x ∈ os) → i + l.length ≤ os.length → ∀ p ∈ plc (fun a b => (a, b)) s l i, (0 ≤ p.1 ∧ p.1 < os.length) ∧ p.2 ∈ os
  | [], i, _, _, p, hp => by simp [plc] at hp
  | x :: l, i, hm, hi, p, hp => by
    rw [List.length_cons] at hi
    have ih := plc_mem s os l (i + 1) (fun y hy => hm y (List.mem_cons_of_mem _ hy)) (by omega) p
    unfold plc at hp
    split at hp
    · rcases List.mem_cons.1 hp with rfl | hp
      · exact ⟨⟨by simp only; omega, by simp only; omega⟩, hm x List.mem_cons_self⟩
      · exact ih hp
    · exact ih hp
theorem placesP_mem (s : Int) (os : List Int) (p : Int × Int) (hp : p ∈ placesP s os) : (0 ≤ p.1 ∧ p.1 < os.length) ∧ p.2 ∈ os := by
  unfold placesP placesOf at hp
  split at hp
  · simp at hp
  · exact plc_mem s os os 0 (fun x h => h) (by omega) p hp
theorem trail_20 {a b c d : Int} (h : ¬ (trailT a b c d).size = 0) : (trailT a b c d).size = 20 := by
  obtain ⟨h1, h2, h3, h4, _⟩ := trailT_size a b c d h
  have k1 := fixT4_full a h1
  have k2 := fixT4_full b h2
  have k3 := fixT4_full c h3
  have k4 := fixT4_full d h4
  exact (trailT_pos a b c d k1.2 k2.2 k3.2 k4.2).2
def ixf {α : Type} (p : α → Bool) : List α → Nat → Int
  | [], _ => -1
  | x :: l, i => if p x = true then i else ixf p l (i + 1)
theorem ixf_step {α : Type} [Inhabited α] (p : α → Bool) (l : List α) (i : Nat) (h : i < l.length) : ixf p (l.drop i) i = if p (l.getD i default) = true then (i : Int) else ixf p (l.drop (i + 1)) (i + 1) := by
  rw [List.drop_eq_getElem_cons h, List.getD_eq_getElem?_getD, List.getElem?_eq_getElem h]; rfl
theorem ixf_any {α : Type} (p : α → Bool) : ∀ (l : List α) (i : Nat), (0 ≤ ixf p l i ↔ l.any p = true) ∧ -1 ≤ ixf p l i ∧ ixf p l i < i + l.length
  | [], i => ⟨by simp [ixf], by simp [ixf], by simp only [ixf, List.length_nil]; omega⟩
  | x :: l, i => by
    have ih := ixf_any p l (i + 1)
    unfold ixf
    rw [List.any_cons, List.length_cons]
    by_cases h : p x = true
    · rw [if_pos h, h]; exact ⟨by simp, by omega, by omega⟩
    · have h' : p x = false := by simpa using h
      rw [if_neg h, h', Bool.false_or]
      exact ⟨ih.1, ih.2.1, by omega⟩
theorem any60 (rs : List ByteArray) : rs.any (fun s => decide (60 < s.size)) = true ↔ ¬ ∀ r ∈ rs, r.size ≤ 60 := by
  rw [List.any_eq_true]
  constructor
  · rintro ⟨r, h1, h2⟩ h3
    have := h3 r h1
    have := of_decide_eq_true h2
    omega
  · intro h
    refine Decidable.byContradiction fun k => h fun r hr => ?_
    refine Decidable.byContradiction fun q => k ⟨r, hr, decide_eq_true (by omega)⟩
end Go.Pv

/- What functions of the program and of the reference do, in plain values. -/
namespace Go.Pv
open Go.Proofs Go.Mth
set_option linter.unusedSimpArgs false
set_option linter.unusedVariables false
set_option maxHeartbeats 4000000

/-! ### scans -/
def slN (K n : Nat) : PV := if n = 0 then .nils else .row K n
def hpN (K : Nat) (xs : List PV) : Hp := if xs.length = 0 then [] else [(K, .row ⟨1, 0⟩ xs)]
abbrev Sc := Bool × Int × Int × Int × Int × List ByteArray × List Int × Int × Bool
/-- A scan as it is handed back: its slices as one's own. -/
def scanR (t : Sc) : PV := .agg [.bool t.1, .int .i64 t.2.1, .int .i64 t.2.2.1, .int .i64 t.2.2.2.1, .int .i64 t.2.2.2.2.1, .row 64 t.2.2.2.2.2.1.length, .row 65 t.2.2.2.2.2.2.1.length, .int .i64 t.2.2.2.2.2.2.2.1, .bool t.2.2.2.2.2.2.2.2]
def scanH (t : Sc) : Hp := [(64, .row ⟨1, 0⟩ (t.2.2.2.2.2.1.map .str)), (65, .row ⟨1, 0⟩ (t.2.2.2.2.2.2.1.map (.int .i64)))]
def scanP (t : Sc) : PV := .agg [.bool t.1, .int .i64 t.2.1, .int .i64 t.2.2.1, .int .i64 t.2.2.2.1, .int .i64 t.2.2.2.2.1, .far (t.2.2.2.2.2.1.map .str), .far (t.2.2.2.2.2.2.1.map (.int .i64)), .int .i64 t.2.2.2.2.2.2.2.1, .bool t.2.2.2.2.2.2.2.2]
end Go.Pv

/- What functions of the program and of the reference do, in plain values. -/
namespace Go.Pv
open Go.Proofs Go.Mth
set_option linter.unusedSimpArgs false
set_option linter.unusedVariables false
set_option maxHeartbeats 4000000

/-! ### what is told of scans -/
def scEnd (b : ByteArray) : Int := (scan b).2.2.2.2.2.2.2.1
theorem scEnd_ok (b : ByteArray) : 0 ≤ scEnd b ∧ scEnd b ≤ b.size := by
  by_cases h : (scan b).1 = true
  · obtain ⟨_, h2, h3, _⟩ := scan_inv b h
    exact ⟨by unfold scEnd; omega, h3⟩
  · unfold scEnd; rw [scan_no b h]; simp
end Go.Pv

/- What functions of the program and of the reference do, in plain values. -/
namespace Go.Pv
open Go.Proofs Go.Mth
set_option linter.unusedSimpArgs false
set_option linter.unusedVariables false
set_option maxHeartbeats 4000000

/-! ### sealed files, read -/
def rsP (x : (Int × Int × Int × Int) × List ByteArray × Bool) : PV := .tup [.agg [.int .i64 x.1.1, .int .i64 x.1.2.1, .int .i64 x.1.2.2.1, .int .i64 x.1.2.2.2], .far (x.2.1.map .str), .bool x.2.2]
def rsR (x : (Int × Int × Int × Int) × List ByteArray × Bool) : PV := .tup [.agg [.int .i64 x.1.1, .int .i64 x.1.2.1, .int .i64 x.1.2.2.1, .int .i64 x.1.2.2.2], .row 64 x.2.1.length, .bool x.2.2]
def rsH (x : (Int × Int × Int × Int) × List ByteArray × Bool) : Hp := [(64, .row ⟨1, 0⟩ (x.2.1.map .str))]
def hiP (x : (Int × Int × Int × Int) × List ByteArray × Bool) : PV := .tup [.agg [.int .i64 x.1.1, .int .i64 x.1.2.1, .int .i64 x.1.2.2.1, .int .i64 x.1.2.2.2], .bool x.2.2]
def resealT (b : ByteArray) (n : Int) : ByteArray := if (scan b).1 = true ∧ (n = 0 ∨ verOk n) then sealT (if n = 0 then (scan b).2.1 else n) (scan b).2.2.1 (scan b).2.2.2.1 (scan b).2.2.2.2.1 (scan b).2.2.2.2.2.1 else ⟨#[]⟩
def seekT (b : ByteArray) (i : Int) : ByteArray × Bool := if (rSealed b).2.2 = true ∧ (rSealed b).1.2.2.1 ≤ i ∧ i < (rSealed b).1.2.2.1 + (rSealed b).2.1.length then ((rSealed b).2.1.getD (i - (rSealed b).1.2.2.1).toNat default, true) else (⟨#[]⟩, false)
def skP (x : ByteArray × Bool) : PV := .tup [.str x.1, .bool x.2]
theorem rSealed_f (b : ByteArray) : (0 ≤ (rSealed b).1.2.2.1 ∧ (rSealed b).1.2.2.1 ≤ 1000000000) ∧ (rSealed b).2.1.length ≤ b.size ∧ (∀ r ∈ (rSealed b).2.1, r.size ≤ 60) := by
  obtain ⟨f1, f2, f3, f4, f5, f6, _⟩ := scan_f b
  unfold rSealed
  split
  · exact ⟨f3, f5, f6⟩
  · exact ⟨⟨by decide, by decide⟩, Nat.zero_le _, fun _ h => absurd h (by simp)⟩
end Go.Pv

/- What functions of the program and of the reference do, in plain values. -/
namespace Go.Pv
open Go.Proofs Go.Mth
set_option linter.unusedSimpArgs false
set_option linter.unusedVariables false
set_option maxHeartbeats 4000000

/-! ### the laws' own functions: slices of numbers and of texts -/
theorem eq_step {α : Type} [Inhabited α] (xs ys : List α) (i : Nat) (hl : xs.length = ys.length) (hi : i < xs.length) (h : xs.take i = ys.take i) (he : xs.getD i default = ys.getD i default) : xs.take (i + 1) = ys.take (i + 1) := by
  rw [List.take_succ_eq_append_getElem hi, List.take_succ_eq_append_getElem (by omega), h]
  rw [List.getD_eq_getElem?_getD, List.getD_eq_getElem?_getD, List.getElem?_eq_getElem hi, List.getElem?_eq_getElem (by omega : i < ys.length)] at he
  exact congrArg (fun x => ys.take i ++ [x]) he
theorem row_step {α : Type} [Inhabited α] (xs : List α) (z : α) (n i : Nat) (hn : n = xs.length) (hi : i < n) : (xs.take i ++ List.replicate (n - i) z).set i (xs.getD i default) = xs.take (i + 1) ++ List.replicate (n - (i + 1)) z := by
  subst hn
  rw [show xs.length - i = (xs.length - (i + 1)) + 1 by omega, List.replicate_succ, List.take_succ_eq_append_getElem hi, List.set_append_right _ _ (by rw [List.length_take]; omega), List.length_take, Nat.min_eq_left (by omega), Nat.sub_self, List.set_cons_zero, List.append_assoc, List.getD_eq_getElem?_getD, List.getElem?_eq_getElem hi]
  rfl
theorem mark_step {α : Type} (f : Int → α) (xs : List α) (k : Int) (i : Nat) (hi : i < xs.length) : ((seqL i k).map f ++ xs.drop i).set i (f (k + i)) = (seqL (i + 1) k).map f ++ xs.drop (i + 1) := by
  rw [List.drop_eq_getElem_cons hi, List.set_append_right _ _ (by rw [List.length_map, seqL_length]; omega), List.length_map, seqL_length, Nat.sub_self, List.set_cons_zero, seqL_snoc, List.map_append, List.append_assoc]; rfl
theorem seqL_getD {α : Type} (f : Int → α) [Inhabited α] (n : Nat) (k : Int) (i : Nat) (hi : i < n) : ((seqL n k).map f).getD i default = f (k + i) := by
  have h := seqL_get n k i hi
  rw [rd, Int.toNat_natCast, List.getD_eq_getElem?_getD] at h
  have hl : i < (seqL n k).length := by rw [seqL_length]; exact hi
  rw [List.getElem?_eq_getElem hl] at h
  rw [List.getD_eq_getElem?_getD, List.getElem?_map, List.getElem?_eq_getElem hl]
  exact congrArg f h
theorem laws_eqInt (xs ys : List Int) (hx : xs.length ≤ 4611686018427387904) : Fn Try.prog 37 [.far (xs.map (.int .i64)), .far (ys.map (.int .i64))] [] (.bool (decide (xs = ys))) [] := by
  refine fn_x tok (n := 26) (rs := [.tmp 4]) Try.func37 (by decide) rfl rfl rfl rfl ?_
  (try simp (maxSteps := 1000000) (disch := first | omega | (simp only [LN, numOk, verOk] <;> omega) | exact Ck.mk rfl) only [VC, T, Nat.reduceMul, Nat.reduceAdd, Nat.reduceSub, Nat.reduceLT, Nat.reduceEqDiff, Nat.reduceLeDiff, Nat.reduceBEq, reduceCtorEq, Int.reduceToNat, ↓reduceIte])
  repeat' (first
    | (refine br_go (fun e f => ?_) (fun e f => ?_) <;> (try simp only [BB] at f) <;> (try simp only [numOk, verOk] at f) <;> (try simp (maxSteps := 1000000) (disch := first | omega | (simp only [LN, numOk, verOk] <;> omega) | exact Ck.mk rfl) only [e, VC, T, Nat.reduceMul, Nat.reduceAdd, Nat.reduceSub, Nat.reduceLT, Nat.reduceEqDiff, Nat.reduceLeDiff, Nat.reduceBEq, reduceCtorEq, Int.reduceToNat, ↓reduceIte]) <;> (try clear e))
    | (refine pick_go (fun e f => ?_) (fun e f => ?_) <;> (try simp only [BB] at f) <;> (try simp only [numOk, verOk] at f) <;> (try simp (maxSteps := 1000000) (disch := first | omega | (simp only [LN, numOk, verOk] <;> omega) | exact Ck.mk rfl) only [e, VC, T, Nat.reduceMul, Nat.reduceAdd, Nat.reduceSub, Nat.reduceLT, Nat.reduceEqDiff, Nat.reduceLeDiff, Nat.reduceBEq, reduceCtorEq, Int.reduceToNat, ↓reduceIte]) <;> (try clear e)))
  · have hl : xs.length = ys.length := by omega
    refine lp_go (fun i : Nat => ⟨26, [(0, .far (xs.map (.int .i64))), (1, .far (ys.map (.int .i64))), (5, .int .i64 i)], []⟩) (fun i => i ≤ xs.length ∧ xs.take i = ys.take i) (fun i => xs.length - i) 0 ?_ ⟨Nat.zero_le _, rfl⟩ ?_
    · (simp (disch := first | omega | (simp only [LN, numOk, verOk] <;> omega) | exact Ck.mk rfl) only [SB, EQ, Nat.reduceMul, Nat.reduceAdd, Nat.reduceSub, Nat.reduceLT, Nat.reduceEqDiff, Nat.reduceLeDiff, Nat.reduceBEq, reduceCtorEq, Int.reduceToNat, ↓reduceIte]; try omega)
    · rintro i ⟨h1, h2⟩ N hN
      (try simp (maxSteps := 1000000) (disch := first | omega | (simp only [LN, numOk, verOk] <;> omega) | exact Ck.mk rfl) only [VC, T, Nat.reduceMul, Nat.reduceAdd, Nat.reduceSub, Nat.reduceLT, Nat.reduceEqDiff, Nat.reduceLeDiff, Nat.reduceBEq, reduceCtorEq, Int.reduceToNat, ↓reduceIte])
      repeat' (first
        | (refine br_go (fun e f => ?_) (fun e f => ?_) <;> (try simp only [BB] at f) <;> (try simp only [numOk, verOk] at f) <;> (try simp (maxSteps := 1000000) (disch := first | omega | (simp only [LN, numOk, verOk] <;> omega) | exact Ck.mk rfl) only [e, VC, T, Nat.reduceMul, Nat.reduceAdd, Nat.reduceSub, Nat.reduceLT, Nat.reduceEqDiff, Nat.reduceLeDiff, Nat.reduceBEq, reduceCtorEq, Int.reduceToNat, ↓reduceIte]) <;> (try clear e))
        | (refine pick_go (fun e f => ?_) (fun e f => ?_) <;> (try simp only [BB] at f) <;> (try simp only [numOk, verOk] at f) <;> (try simp (maxSteps := 1000000) (disch := first | omega | (simp only [LN, numOk, verOk] <;> omega) | exact Ck.mk rfl) only [e, VC, T, Nat.reduceMul, Nat.reduceAdd, Nat.reduceSub, Nat.reduceLT, Nat.reduceEqDiff, Nat.reduceLeDiff, Nat.reduceBEq, reduceCtorEq, Int.reduceToNat, ↓reduceIte]) <;> (try clear e))
        | ((first | refine dr_go mixed (id := 6) [([], [0], []), ([], [5], []), ([0, 1], [17, 18], []), ([0, 1, 2], [19], []), ([], [1], []), ([], [5], []), ([4, 5], [21, 22], []), ([4, 5, 6], [23], []), ([0, 1, 2, 3, 4, 5, 6, 7], [20, 24], [])] rfl rfl rfl ?_); (try simp (maxSteps := 1000000) (disch := first | omega | (simp only [LN, numOk, verOk] <;> omega) | exact Ck.mk rfl) only [VC, T, Nat.reduceMul, Nat.reduceAdd, Nat.reduceSub, Nat.reduceLT, Nat.reduceEqDiff, Nat.reduceLeDiff, Nat.reduceBEq, reduceCtorEq, Int.reduceToNat, ↓reduceIte])))
      · refine hN (i + 1) _ ⟨by omega, eq_step xs ys i hl (by omega) h2 f⟩ (by omega) ?_
        (simp (disch := first | omega | (simp only [LN, numOk, verOk] <;> omega) | exact Ck.mk rfl) only [SB, EQ, Nat.reduceMul, Nat.reduceAdd, Nat.reduceSub, Nat.reduceLT, Nat.reduceEqDiff, Nat.reduceLeDiff, Nat.reduceBEq, reduceCtorEq, Int.reduceToNat, ↓reduceIte]; try omega)
      · rw [decide_eq_false fun h => f (by rw [h])]
      · rw [List.take_of_length_le (by omega), List.take_of_length_le (by omega)] at h2
        rw [decide_eq_true h2]
  · rw [decide_eq_false fun h => f (by rw [h])]
theorem laws_toInt_R (xs : List Int) (hx : xs.length ≤ 1073741824) : FnE Try.prog 35 [.far (xs.map (.int .i64))] [] (fun r m => r = .row 64 xs.length ∧ m = [(64, .row ⟨1, 0⟩ (xs.map (.int .i64)))]) := by
  refine fn_e tok (n := 22) (rs := [.tmp 2]) Try.func35 (by decide) rfl rfl rfl rfl (low_of rfl) ?_
  (try simp (maxSteps := 1000000) (disch := first | omega | (simp only [LN, numOk, verOk] <;> omega) | exact Ck.mk rfl) only [VC, T, Nat.reduceMul, Nat.reduceAdd, Nat.reduceSub, Nat.reduceLT, Nat.reduceEqDiff, Nat.reduceLeDiff, Nat.reduceBEq, reduceCtorEq, Int.reduceToNat, ↓reduceIte])
  repeat' (first
    | (refine br_go (fun e f => ?_) (fun e f => ?_) <;> (try simp only [BB] at f) <;> (try simp only [numOk, verOk] at f) <;> (try simp (maxSteps := 1000000) (disch := first | omega | (simp only [LN, numOk, verOk] <;> omega) | exact Ck.mk rfl) only [e, VC, T, Nat.reduceMul, Nat.reduceAdd, Nat.reduceSub, Nat.reduceLT, Nat.reduceEqDiff, Nat.reduceLeDiff, Nat.reduceBEq, reduceCtorEq, Int.reduceToNat, ↓reduceIte]) <;> (try clear e))
    | (refine pick_go (fun e f => ?_) (fun e f => ?_) <;> (try simp only [BB] at f) <;> (try simp only [numOk, verOk] at f) <;> (try simp (maxSteps := 1000000) (disch := first | omega | (simp only [LN, numOk, verOk] <;> omega) | exact Ck.mk rfl) only [e, VC, T, Nat.reduceMul, Nat.reduceAdd, Nat.reduceSub, Nat.reduceLT, Nat.reduceEqDiff, Nat.reduceLeDiff, Nat.reduceBEq, reduceCtorEq, Int.reduceToNat, ↓reduceIte]) <;> (try clear e)))
  refine lp_go (fun i : Nat => ⟨22, [(0, .far (xs.map (.int .i64))), (3, .row 512 xs.length), (4, .int .i64 i)], [(512, .row ⟨1, 0⟩ ((xs.take i ++ List.replicate (xs.length - i) (0 : Int)).map (.int .i64)))]⟩) (fun i => i ≤ xs.length) (fun i => xs.length - i) 0 ?_ (Nat.zero_le _) ?_
  · (simp (disch := first | omega | (simp only [LN, numOk, verOk] <;> omega) | exact Ck.mk rfl) only [SB, EQ, Nat.reduceMul, Nat.reduceAdd, Nat.reduceSub, Nat.reduceLT, Nat.reduceEqDiff, Nat.reduceLeDiff, Nat.reduceBEq, reduceCtorEq, Int.reduceToNat, ↓reduceIte]; try omega)
    first | (simp; done) | (simp; exact .inr rfl)
  · intro i hi N hN
    have hs := row_step xs (0 : Int) xs.length i rfl
    have hln : (xs.take i ++ List.replicate (xs.length - i) (0 : Int)).length = xs.length := by rw [List.length_append, List.length_take, List.length_replicate]; omega
    (try simp (maxSteps := 1000000) (disch := first | omega | (simp only [LN, numOk, verOk, hln, hs] <;> omega) | exact Ck.mk rfl) only [VC, T, Nat.reduceMul, Nat.reduceAdd, Nat.reduceSub, Nat.reduceLT, Nat.reduceEqDiff, Nat.reduceLeDiff, Nat.reduceBEq, reduceCtorEq, Int.reduceToNat, ↓reduceIte, hln, hs])
    repeat' (first
      | (refine br_go (fun e f => ?_) (fun e f => ?_) <;> (try simp only [BB] at f) <;> (try simp only [numOk, verOk] at f) <;> (try simp (maxSteps := 1000000) (disch := first | omega | (simp only [LN, numOk, verOk, hln, hs] <;> omega) | exact Ck.mk rfl) only [e, VC, T, Nat.reduceMul, Nat.reduceAdd, Nat.reduceSub, Nat.reduceLT, Nat.reduceEqDiff, Nat.reduceLeDiff, Nat.reduceBEq, reduceCtorEq, Int.reduceToNat, ↓reduceIte, hln, hs]) <;> (try clear e))
      | (refine pick_go (fun e f => ?_) (fun e f => ?_) <;> (try simp only [BB] at f) <;> (try simp only [numOk, verOk] at f) <;> (try simp (maxSteps := 1000000) (disch := first | omega | (simp only [LN, numOk, verOk, hln, hs] <;> omega) | exact Ck.mk rfl) only [e, VC, T, Nat.reduceMul, Nat.reduceAdd, Nat.reduceSub, Nat.reduceLT, Nat.reduceEqDiff, Nat.reduceLeDiff, Nat.reduceBEq, reduceCtorEq, Int.reduceToNat, ↓reduceIte, hln, hs]) <;> (try clear e)))
    · refine hN (i + 1) _ (by omega) (by omega) ?_
      (simp (disch := first | omega | (simp only [LN, numOk, verOk] <;> omega) | exact Ck.mk rfl) only [SB, EQ, Nat.reduceMul, Nat.reduceAdd, Nat.reduceSub, Nat.reduceLT, Nat.reduceEqDiff, Nat.reduceLeDiff, Nat.reduceBEq, reduceCtorEq, Int.reduceToNat, ↓reduceIte]; try omega)
    · obtain rfl : i = xs.length := by omega
      exact fin_t [some 512] (⟨rfl, rfl⟩) rfl (by simp [RV, RV2, RVl, RV1, tau, tget, hget, data1, oneOf]) (by simp [RH, RVl, RV1, tau, hget, data1]) (by simp [Taus, hget])
theorem laws_toInt (xs : List Int) (hx : xs.length ≤ 1073741824) : Fn Try.prog 35 [.far (xs.map (.int .i64))] [] (.far (xs.map (.int .i64))) [] := by
  obtain ⟨_, _, ⟨rfl, rfl⟩, h⟩ := laws_toInt_R xs hx
  refine h.far ?_
  simp [fz, fz2, fz1, cvtl, elems, hget, data1]
end Go.Pv

/- What functions of the program and of the reference do, in plain values. -/
namespace Go.Pv
open Go.Proofs Go.Mth
set_option linter.unusedSimpArgs false
set_option linter.unusedVariables false
set_option maxHeartbeats 4000000

/-! ### laws over slices: how much there is, heads -/
def sumSz (l : List ByteArray) : Int := l.foldr (fun s n => (s.size : Int) + n) 0
theorem sumSz_nil : sumSz [] = 0 := rfl
theorem sumSz_cons (s : ByteArray) (l : List ByteArray) : sumSz (s :: l) = s.size + sumSz l := rfl
theorem sumSz_pos (l : List ByteArray) : 0 ≤ sumSz l := by
  induction l with
  | nil => exact Int.le_refl _
  | cons s l ih => rw [sumSz_cons]; omega
theorem sumSz_mem : ∀ {l : List ByteArray} {s : ByteArray}, s ∈ l → (s.size : Int) ≤ sumSz l
  | x :: l, s, h => by
    rw [sumSz_cons]
    rcases List.mem_cons.1 h with rfl | h
    · have := sumSz_pos l; omega
    · have := sumSz_mem h; omega
theorem sumSz_drop (l : List ByteArray) (i : Nat) (h : i < l.length) : sumSz (l.drop i) = (l.getD i default).size + sumSz (l.drop (i + 1)) := by
  rw [List.drop_eq_getElem_cons h, List.getD_eq_getElem?_getD, List.getElem?_eq_getElem h]; rfl
/-- What is left, if anything is. -/
theorem laws_toPlace (a b : Int) : Fn Try.prog 60 [.agg [.int .i64 a, .int .i64 b]] [] (.agg [.int .i64 a, .int .i64 b]) [] := by
  refine fn_x tok (n := 11) (rs := [.cell 2 29]) Try.func60 (by decide) rfl rfl rfl rfl ?_
  (try simp (maxSteps := 1000000) (disch := first | omega | (simp only [LN, numOk, verOk, rfP, rvP, rhP, frP] <;> omega) | exact Ck.mk rfl) only [VC, T, Nat.reduceMul, Nat.reduceAdd, Nat.reduceSub, Nat.reduceLT, Nat.reduceEqDiff, Nat.reduceLeDiff, Nat.reduceBEq, reduceCtorEq, Int.reduceToNat, ↓reduceIte, rfP, rvP, rhP, frP])
  repeat' (first
    | (refine br_go (fun e f => ?_) (fun e f => ?_) <;> (try simp only [BB] at f) <;> (try simp only [numOk, verOk] at f) <;> (try simp (maxSteps := 1000000) (disch := first | omega | (simp only [LN, numOk, verOk, rfP, rvP, rhP, frP] <;> omega) | exact Ck.mk rfl) only [e, VC, T, Nat.reduceMul, Nat.reduceAdd, Nat.reduceSub, Nat.reduceLT, Nat.reduceEqDiff, Nat.reduceLeDiff, Nat.reduceBEq, reduceCtorEq, Int.reduceToNat, ↓reduceIte, rfP, rvP, rhP, frP]) <;> (try clear e))
    | (refine pick_go (fun e f => ?_) (fun e f => ?_) <;> (try simp only [BB] at f) <;> (try simp only [numOk, verOk] at f) <;> (try simp (maxSteps := 1000000) (disch := first | omega | (simp only [LN, numOk, verOk, rfP, rvP, rhP, frP] <;> omega) | exact Ck.mk rfl) only [e, VC, T, Nat.reduceMul, Nat.reduceAdd, Nat.reduceSub, Nat.reduceLT, Nat.reduceEqDiff, Nat.reduceLeDiff, Nat.reduceBEq, reduceCtorEq, Int.reduceToNat, ↓reduceIte, rfP, rvP, rhP, frP]) <;> (try clear e)))
theorem laws_eqPlace (x y : Int × Int) : Fn Try.prog 23 [plP x, plP y] [] (.bool (decide (x = y))) [] := by
  obtain ⟨a, b⟩ := x
  obtain ⟨c, d⟩ := y
  unfold plP
  refine fn_x tok (n := 15) (rs := [.tmp 4]) Try.func23 (by decide) rfl rfl rfl rfl ?_
  (try simp (maxSteps := 1000000) (disch := first | omega | (simp only [LN, numOk, verOk, rfP, rvP, rhP, frP] <;> omega) | exact Ck.mk rfl) only [VC, T, Nat.reduceMul, Nat.reduceAdd, Nat.reduceSub, Nat.reduceLT, Nat.reduceEqDiff, Nat.reduceLeDiff, Nat.reduceBEq, reduceCtorEq, Int.reduceToNat, ↓reduceIte, rfP, rvP, rhP, frP])
  repeat' (first
    | (refine br_go (fun e f => ?_) (fun e f => ?_) <;> (try simp only [BB] at f) <;> (try simp only [numOk, verOk] at f) <;> (try simp (maxSteps := 1000000) (disch := first | omega | (simp only [LN, numOk, verOk, rfP, rvP, rhP, frP] <;> omega) | exact Ck.mk rfl) only [e, VC, T, Nat.reduceMul, Nat.reduceAdd, Nat.reduceSub, Nat.reduceLT, Nat.reduceEqDiff, Nat.reduceLeDiff, Nat.reduceBEq, reduceCtorEq, Int.reduceToNat, ↓reduceIte, rfP, rvP, rhP, frP]) <;> (try clear e))
    | (refine pick_go (fun e f => ?_) (fun e f => ?_) <;> (try simp only [BB] at f) <;> (try simp only [numOk, verOk] at f) <;> (try simp (maxSteps := 1000000) (disch := first | omega | (simp only [LN, numOk, verOk, rfP, rvP, rhP, frP] <;> omega) | exact Ck.mk rfl) only [e, VC, T, Nat.reduceMul, Nat.reduceAdd, Nat.reduceSub, Nat.reduceLT, Nat.reduceEqDiff, Nat.reduceLeDiff, Nat.reduceBEq, reduceCtorEq, Int.reduceToNat, ↓reduceIte, rfP, rvP, rhP, frP]) <;> (try clear e)))
  all_goals simp [*]
theorem laws_szPlaceS (ps : List (Int × Int)) (n : Int) (hn : 0 ≤ n ∧ n ≤ 1048576) (hx : ps.length ≤ 9223372036854775807) : FnV Try.prog 19 [.far (ps.map plP), .int .i64 n] (fun r => ∃ m : Int, r = .int .i64 m ∧ (0 ≤ m → m = n - ps.length) ∧ -1 ≤ m ∧ m ≤ n) := by
  refine fn_v tok (n := 12) (rs := [.tmp 4]) Try.func19 (by decide) rfl rfl rfl rfl ?_
  (try simp (maxSteps := 1000000) (disch := first | omega | (simp only [LN, numOk, verOk, rfP, rvP, rhP, frP] <;> omega) | exact Ck.mk rfl) only [VC, T, Nat.reduceMul, Nat.reduceAdd, Nat.reduceSub, Nat.reduceLT, Nat.reduceEqDiff, Nat.reduceLeDiff, Nat.reduceBEq, reduceCtorEq, Int.reduceToNat, ↓reduceIte, rfP, rvP, rhP, frP])
  repeat' (first
    | (refine br_go (fun e f => ?_) (fun e f => ?_) <;> (try simp only [BB] at f) <;> (try simp only [numOk, verOk] at f) <;> (try simp (maxSteps := 1000000) (disch := first | omega | (simp only [LN, numOk, verOk, rfP, rvP, rhP, frP] <;> omega) | exact Ck.mk rfl) only [e, VC, T, Nat.reduceMul, Nat.reduceAdd, Nat.reduceSub, Nat.reduceLT, Nat.reduceEqDiff, Nat.reduceLeDiff, Nat.reduceBEq, reduceCtorEq, Int.reduceToNat, ↓reduceIte, rfP, rvP, rhP, frP]) <;> (try clear e))
    | (refine pick_go (fun e f => ?_) (fun e f => ?_) <;> (try simp only [BB] at f) <;> (try simp only [numOk, verOk] at f) <;> (try simp (maxSteps := 1000000) (disch := first | omega | (simp only [LN, numOk, verOk, rfP, rvP, rhP, frP] <;> omega) | exact Ck.mk rfl) only [e, VC, T, Nat.reduceMul, Nat.reduceAdd, Nat.reduceSub, Nat.reduceLT, Nat.reduceEqDiff, Nat.reduceLeDiff, Nat.reduceBEq, reduceCtorEq, Int.reduceToNat, ↓reduceIte, rfP, rvP, rhP, frP]) <;> (try clear e)))
  · exact ⟨-1, rfl, fun h => by omega, by omega, by omega⟩
  · exact ⟨_, rfl, fun _ => rfl, by omega, by omega⟩
theorem laws_toPlaceS_R (ps : List (Int × Int)) (hx : ps.length ≤ 1073741824) : FnE Try.prog 21 [.far (ps.map plP)] [] (fun r m => r = .row 64 ps.length ∧ m = [(64, .row ⟨2, 0⟩ (ps.map plP))]) := by
  refine fn_e tok (n := 23) (rs := [.tmp 2]) Try.func21 (by decide) rfl rfl rfl rfl (low_of rfl) ?_
  (try simp (maxSteps := 1000000) (disch := first | omega | (simp only [LN, numOk, verOk, rfP, rvP, rhP, frP] <;> omega) | exact Ck.mk rfl) only [VC, T, Nat.reduceMul, Nat.reduceAdd, Nat.reduceSub, Nat.reduceLT, Nat.reduceEqDiff, Nat.reduceLeDiff, Nat.reduceBEq, reduceCtorEq, Int.reduceToNat, ↓reduceIte, rfP, rvP, rhP, frP])
  repeat' (first
    | (refine br_go (fun e f => ?_) (fun e f => ?_) <;> (try simp only [BB] at f) <;> (try simp only [numOk, verOk] at f) <;> (try simp (maxSteps := 1000000) (disch := first | omega | (simp only [LN, numOk, verOk, rfP, rvP, rhP, frP] <;> omega) | exact Ck.mk rfl) only [e, VC, T, Nat.reduceMul, Nat.reduceAdd, Nat.reduceSub, Nat.reduceLT, Nat.reduceEqDiff, Nat.reduceLeDiff, Nat.reduceBEq, reduceCtorEq, Int.reduceToNat, ↓reduceIte, rfP, rvP, rhP, frP]) <;> (try clear e))
    | (refine pick_go (fun e f => ?_) (fun e f => ?_) <;> (try simp only [BB] at f) <;> (try simp only [numOk, verOk] at f) <;> (try simp (maxSteps := 1000000) (disch := first | omega | (simp only [LN, numOk, verOk, rfP, rvP, rhP, frP] <;> omega) | exact Ck.mk rfl) only [e, VC, T, Nat.reduceMul, Nat.reduceAdd, Nat.reduceSub, Nat.reduceLT, Nat.reduceEqDiff, Nat.reduceLeDiff, Nat.reduceBEq, reduceCtorEq, Int.reduceToNat, ↓reduceIte, rfP, rvP, rhP, frP]) <;> (try clear e)))
  refine lp_go (fun i : Nat => ⟨23, [(0, .far (ps.map plP)), (3, .row 512 ps.length), (4, .int .i64 i)], [(512, .row ⟨2, 0⟩ ((ps.take i ++ List.replicate (ps.length - i) ((0, 0) : Int × Int)).map plP))]⟩) (fun i => i ≤ ps.length) (fun i => ps.length - i) 0 ?_ (Nat.zero_le _) ?_
  · (simp (disch := first | omega | (simp only [LN, numOk, verOk] <;> omega) | exact Ck.mk rfl) only [SB, EQ, Nat.reduceMul, Nat.reduceAdd, Nat.reduceSub, Nat.reduceLT, Nat.reduceEqDiff, Nat.reduceLeDiff, Nat.reduceBEq, reduceCtorEq, Int.reduceToNat, ↓reduceIte]; try omega)
    simp [plP]
  · intro i hi N hN
    have hs := row_step ps ((0, 0) : Int × Int) ps.length i rfl
    have hln : (ps.take i ++ List.replicate (ps.length - i) ((0, 0) : Int × Int)).length = ps.length := by rw [List.length_append, List.length_take, List.length_replicate]; omega
    have hg : i < ps.length → (ps.map plP).getD i .junk = .agg [.int .i64 (ps.getD i default).1, .int .i64 (ps.getD i default).2] := fun h => by
      rw [List.getD_eq_getElem?_getD, List.getElem?_map, List.getElem?_eq_getElem h, List.getD_eq_getElem?_getD, List.getElem?_eq_getElem h]; rfl
    have hu : i < ps.length → ∀ x y, upd (((ps.take i ++ List.replicate (ps.length - i) ((0, 0) : Int × Int)).map plP).getD i .junk) 0 [x, y] = .agg [x, y] := fun h x y => by
      rw [List.getD_eq_getElem?_getD, List.getElem?_map, List.getElem?_eq_getElem (by omega)]; rfl
    have hset : i < ps.length → ((ps.take i ++ List.replicate (ps.length - i) ((0, 0) : Int × Int)).map plP).set i (.agg [.int .i64 (ps.getD i default).1, .int .i64 (ps.getD i default).2]) = (ps.take (i + 1) ++ List.replicate (ps.length - (i + 1)) ((0, 0) : Int × Int)).map plP := fun h => by
      rw [← hs h, List.map_set]; rfl
    have hu2 : ∀ (p : Int × Int) x y, upd (plP p) 0 [x, y] = .agg [x, y] := fun _ _ _ => rfl
    (try simp (maxSteps := 1000000) (disch := first | omega | (simp only [LN, numOk, verOk, rfP, rvP, rhP, frP, hln, hg, hu, hu2, hset] <;> omega) | exact Ck.mk rfl) only [VC, T, Nat.reduceMul, Nat.reduceAdd, Nat.reduceSub, Nat.reduceLT, Nat.reduceEqDiff, Nat.reduceLeDiff, Nat.reduceBEq, reduceCtorEq, Int.reduceToNat, ↓reduceIte, rfP, rvP, rhP, frP, hln, hg, hu, hu2, hset])
    repeat' (first
      | (refine br_go (fun e f => ?_) (fun e f => ?_) <;> (try simp only [BB] at f) <;> (try simp only [numOk, verOk] at f) <;> (try simp (maxSteps := 1000000) (disch := first | omega | (simp only [LN, numOk, verOk, rfP, rvP, rhP, frP, hln, hg, hu, hu2, hset] <;> omega) | exact Ck.mk rfl) only [e, VC, T, Nat.reduceMul, Nat.reduceAdd, Nat.reduceSub, Nat.reduceLT, Nat.reduceEqDiff, Nat.reduceLeDiff, Nat.reduceBEq, reduceCtorEq, Int.reduceToNat, ↓reduceIte, rfP, rvP, rhP, frP, hln, hg, hu, hu2, hset]) <;> (try clear e))
      | (refine pick_go (fun e f => ?_) (fun e f => ?_) <;> (try simp only [BB] at f) <;> (try simp only [numOk, verOk] at f) <;> (try simp (maxSteps := 1000000) (disch := first | omega | (simp only [LN, numOk, verOk, rfP, rvP, rhP, frP, hln, hg, hu, hu2, hset] <;> omega) | exact Ck.mk rfl) only [e, VC, T, Nat.reduceMul, Nat.reduceAdd, Nat.reduceSub, Nat.reduceLT, Nat.reduceEqDiff, Nat.reduceLeDiff, Nat.reduceBEq, reduceCtorEq, Int.reduceToNat, ↓reduceIte, rfP, rvP, rhP, frP, hln, hg, hu, hu2, hset]) <;> (try clear e))
      | ((first | refine call_x (laws_toPlace _ _) rfl ⟨rfl⟩ ?_); (try simp (maxSteps := 1000000) (disch := first | omega | (simp only [LN, numOk, verOk, rfP, rvP, rhP, frP, hln, hg, hu, hu2, hset] <;> omega) | exact Ck.mk rfl) only [VC, T, Nat.reduceMul, Nat.reduceAdd, Nat.reduceSub, Nat.reduceLT, Nat.reduceEqDiff, Nat.reduceLeDiff, Nat.reduceBEq, reduceCtorEq, Int.reduceToNat, ↓reduceIte, rfP, rvP, rhP, frP, hln, hg, hu, hu2, hset])))
    · refine hN (i + 1) _ (by omega) (by omega) ?_
      (simp (disch := first | omega | (simp only [LN, numOk, verOk] <;> omega) | exact Ck.mk rfl) only [SB, EQ, Nat.reduceMul, Nat.reduceAdd, Nat.reduceSub, Nat.reduceLT, Nat.reduceEqDiff, Nat.reduceLeDiff, Nat.reduceBEq, reduceCtorEq, Int.reduceToNat, ↓reduceIte]; try omega)
    · obtain rfl : i = ps.length := by omega
      exact fin_t [some 512] (⟨rfl, rfl⟩) rfl (by simp [RV, RV2, RVl, RV1, tau, tget, hget, data1, oneOf]) (by simp [RH, RVl, RV1, tau, hget, data1]) (by simp [Taus, hget])
theorem laws_toPlaceS (ps : List (Int × Int)) (hx : ps.length ≤ 1073741824) : Fn Try.prog 21 [.far (ps.map plP)] [] (.far (ps.map plP)) [] := by
  obtain ⟨_, _, ⟨rfl, rfl⟩, h⟩ := laws_toPlaceS_R ps hx
  refine h.far ?_
  simp [fz, fz2, fz1, cvtl, elems, hget, data1]
theorem laws_eqPlaceS (xs ys : List (Int × Int)) (hx : xs.length ≤ 4611686018427387904) : Fn Try.prog 24 [.far (xs.map plP), .far (ys.map plP)] [] (.bool (decide (xs = ys))) [] := by
  refine fn_x tok (n := 27) (rs := [.tmp 4]) Try.func24 (by decide) rfl rfl rfl rfl ?_
  (try simp (maxSteps := 1000000) (disch := first | omega | (simp only [LN, numOk, verOk, rfP, rvP, rhP, frP] <;> omega) | exact Ck.mk rfl) only [VC, T, Nat.reduceMul, Nat.reduceAdd, Nat.reduceSub, Nat.reduceLT, Nat.reduceEqDiff, Nat.reduceLeDiff, Nat.reduceBEq, reduceCtorEq, Int.reduceToNat, ↓reduceIte, rfP, rvP, rhP, frP])
  repeat' (first
    | (refine br_go (fun e f => ?_) (fun e f => ?_) <;> (try simp only [BB] at f) <;> (try simp only [numOk, verOk] at f) <;> (try simp (maxSteps := 1000000) (disch := first | omega | (simp only [LN, numOk, verOk, rfP, rvP, rhP, frP] <;> omega) | exact Ck.mk rfl) only [e, VC, T, Nat.reduceMul, Nat.reduceAdd, Nat.reduceSub, Nat.reduceLT, Nat.reduceEqDiff, Nat.reduceLeDiff, Nat.reduceBEq, reduceCtorEq, Int.reduceToNat, ↓reduceIte, rfP, rvP, rhP, frP]) <;> (try clear e))
    | (refine pick_go (fun e f => ?_) (fun e f => ?_) <;> (try simp only [BB] at f) <;> (try simp only [numOk, verOk] at f) <;> (try simp (maxSteps := 1000000) (disch := first | omega | (simp only [LN, numOk, verOk, rfP, rvP, rhP, frP] <;> omega) | exact Ck.mk rfl) only [e, VC, T, Nat.reduceMul, Nat.reduceAdd, Nat.reduceSub, Nat.reduceLT, Nat.reduceEqDiff, Nat.reduceLeDiff, Nat.reduceBEq, reduceCtorEq, Int.reduceToNat, ↓reduceIte, rfP, rvP, rhP, frP]) <;> (try clear e)))
  · have hl : xs.length = ys.length := by omega
    refine lp_go (fun i : Nat => ⟨27, [(0, .far (xs.map plP)), (1, .far (ys.map plP)), (5, .int .i64 i)], []⟩) (fun i => i ≤ xs.length ∧ xs.take i = ys.take i) (fun i => xs.length - i) 0 ?_ ⟨Nat.zero_le _, rfl⟩ ?_
    · (simp (disch := first | omega | (simp only [LN, numOk, verOk] <;> omega) | exact Ck.mk rfl) only [SB, EQ, Nat.reduceMul, Nat.reduceAdd, Nat.reduceSub, Nat.reduceLT, Nat.reduceEqDiff, Nat.reduceLeDiff, Nat.reduceBEq, reduceCtorEq, Int.reduceToNat, ↓reduceIte]; try omega)
    · rintro i ⟨h1, h2⟩ N hN
      have hg : ∀ zs : List (Int × Int), i < zs.length → (zs.map plP).getD i .junk = .agg [.int .i64 (zs.getD i default).1, .int .i64 (zs.getD i default).2] := fun zs h => by
        rw [List.getD_eq_getElem?_getD, List.getElem?_map, List.getElem?_eq_getElem h, List.getD_eq_getElem?_getD, List.getElem?_eq_getElem h]; rfl
      (try simp (maxSteps := 1000000) (disch := first | omega | (simp only [LN, numOk, verOk, rfP, rvP, rhP, frP, hg] <;> omega) | exact Ck.mk rfl) only [VC, T, Nat.reduceMul, Nat.reduceAdd, Nat.reduceSub, Nat.reduceLT, Nat.reduceEqDiff, Nat.reduceLeDiff, Nat.reduceBEq, reduceCtorEq, Int.reduceToNat, ↓reduceIte, rfP, rvP, rhP, frP, hg])
      repeat' (first
        | (refine br_go (fun e f => ?_) (fun e f => ?_) <;> (try simp only [BB] at f) <;> (try simp only [numOk, verOk] at f) <;> (try simp (maxSteps := 1000000) (disch := first | omega | (simp only [LN, numOk, verOk, rfP, rvP, rhP, frP, hg] <;> omega) | exact Ck.mk rfl) only [e, VC, T, Nat.reduceMul, Nat.reduceAdd, Nat.reduceSub, Nat.reduceLT, Nat.reduceEqDiff, Nat.reduceLeDiff, Nat.reduceBEq, reduceCtorEq, Int.reduceToNat, ↓reduceIte, rfP, rvP, rhP, frP, hg]) <;> (try clear e))
        | (refine pick_go (fun e f => ?_) (fun e f => ?_) <;> (try simp only [BB] at f) <;> (try simp only [numOk, verOk] at f) <;> (try simp (maxSteps := 1000000) (disch := first | omega | (simp only [LN, numOk, verOk, rfP, rvP, rhP, frP, hg] <;> omega) | exact Ck.mk rfl) only [e, VC, T, Nat.reduceMul, Nat.reduceAdd, Nat.reduceSub, Nat.reduceLT, Nat.reduceEqDiff, Nat.reduceLeDiff, Nat.reduceBEq, reduceCtorEq, Int.reduceToNat, ↓reduceIte, rfP, rvP, rhP, frP, hg]) <;> (try clear e))
        | ((first | refine dr_go mixed (id := 6) [([], [0], []), ([], [5], []), ([0, 1], [17, 18], []), ([0, 1, 2], [19], []), ([], [1], []), ([], [5], []), ([4, 5], [21, 22], []), ([4, 5, 6], [23], []), ([0, 1, 2, 3, 4, 5, 6, 7], [20, 24], []), ([0, 1, 2, 3, 4, 5, 6, 7, 8], [25], [])] rfl rfl rfl ?_ | refine call_x (laws_eqPlace _ _) rfl ⟨rfl⟩ ?_); (try simp (maxSteps := 1000000) (disch := first | omega | (simp only [LN, numOk, verOk, rfP, rvP, rhP, frP, hg] <;> omega) | exact Ck.mk rfl) only [VC, T, Nat.reduceMul, Nat.reduceAdd, Nat.reduceSub, Nat.reduceLT, Nat.reduceEqDiff, Nat.reduceLeDiff, Nat.reduceBEq, reduceCtorEq, Int.reduceToNat, ↓reduceIte, rfP, rvP, rhP, frP, hg])))
      · refine hN (i + 1) _ ⟨by omega, eq_step xs ys i hl (by omega) h2 (Prod.ext (by simp_all) (by simp_all))⟩ (by omega) ?_
        (simp (disch := first | omega | (simp only [LN, numOk, verOk] <;> omega) | exact Ck.mk rfl) only [SB, EQ, Nat.reduceMul, Nat.reduceAdd, Nat.reduceSub, Nat.reduceLT, Nat.reduceEqDiff, Nat.reduceLeDiff, Nat.reduceBEq, reduceCtorEq, Int.reduceToNat, ↓reduceIte]; try omega)
      · rw [decide_eq_false fun h => by subst h; simp at f]
      · rw [List.take_of_length_le (by omega), List.take_of_length_le (by omega)] at h2
        rw [decide_eq_true h2]
  · rw [decide_eq_false fun h => f (by rw [h])]
def pfor (i : Int) : List (Int × Int) → (Int × Int) × Bool
  | [] => ((0, 0), false)
  | p :: l => if (pfor i l).2 = true then pfor i l else if p.1 ≤ i then (p, true) else ((0, 0), false)
theorem pfor_snoc (i : Int) (l : List (Int × Int)) (p : Int × Int) : pfor i (l ++ [p]) = if p.1 ≤ i then (p, true) else pfor i l := by
  induction l with
  | nil => simp [pfor]
  | cons q l ih =>
    rw [List.cons_append]
    unfold pfor
    rw [ih]
    by_cases h : p.1 ≤ i
    · simp [h]
    · simp [h]
def pfP (x : (Int × Int) × Bool) : PV := .tup [.agg [.int .i64 x.1.1, .int .i64 x.1.2], .bool x.2]
theorem impl_PlaceFor (ps : List (Int × Int)) (n : Int) (hx : ps.length ≤ 1073741824) : Fn Try.prog 22 [.far (ps.map plP), .int .i64 n] [] (pfP (pfor n ps)) [] := by
  refine fn_x tok (n := 26) (rs := [.cell 4 29, .tmp 5]) Try.func22 (by decide) rfl rfl rfl rfl ?_
  (try simp (maxSteps := 1000000) (disch := first | omega | (simp only [LN, numOk, verOk, rfP, rvP, rhP, frP] <;> omega) | exact Ck.mk rfl) only [VC, T, Nat.reduceMul, Nat.reduceAdd, Nat.reduceSub, Nat.reduceLT, Nat.reduceEqDiff, Nat.reduceLeDiff, Nat.reduceBEq, reduceCtorEq, Int.reduceToNat, ↓reduceIte, rfP, rvP, rhP, frP])
  repeat' (first
    | (refine br_go (fun e f => ?_) (fun e f => ?_) <;> (try simp only [BB] at f) <;> (try simp only [numOk, verOk] at f) <;> (try simp (maxSteps := 1000000) (disch := first | omega | (simp only [LN, numOk, verOk, rfP, rvP, rhP, frP] <;> omega) | exact Ck.mk rfl) only [e, VC, T, Nat.reduceMul, Nat.reduceAdd, Nat.reduceSub, Nat.reduceLT, Nat.reduceEqDiff, Nat.reduceLeDiff, Nat.reduceBEq, reduceCtorEq, Int.reduceToNat, ↓reduceIte, rfP, rvP, rhP, frP]) <;> (try clear e))
    | (refine pick_go (fun e f => ?_) (fun e f => ?_) <;> (try simp only [BB] at f) <;> (try simp only [numOk, verOk] at f) <;> (try simp (maxSteps := 1000000) (disch := first | omega | (simp only [LN, numOk, verOk, rfP, rvP, rhP, frP] <;> omega) | exact Ck.mk rfl) only [e, VC, T, Nat.reduceMul, Nat.reduceAdd, Nat.reduceSub, Nat.reduceLT, Nat.reduceEqDiff, Nat.reduceLeDiff, Nat.reduceBEq, reduceCtorEq, Int.reduceToNat, ↓reduceIte, rfP, rvP, rhP, frP]) <;> (try clear e)))
  refine lp_go (fun k : Nat => ⟨26, [(0, .far (ps.map plP)), (1, .int .i64 n), (4, .ref 320 0), (6, .int .i64 ((k : Int) - 1))], [(320, .box 29 [.int .i64 0, .int .i64 0])]⟩) (fun k => k ≤ ps.length ∧ pfor n ps = pfor n (ps.take k)) (fun k => k) ps.length ?_ ⟨Nat.le_refl _, by rw [List.take_length]⟩ ?_
  · (simp (disch := first | omega | (simp only [LN, numOk, verOk] <;> omega) | exact Ck.mk rfl) only [SB, EQ, Nat.reduceMul, Nat.reduceAdd, Nat.reduceSub, Nat.reduceLT, Nat.reduceEqDiff, Nat.reduceLeDiff, Nat.reduceBEq, reduceCtorEq, Int.reduceToNat, ↓reduceIte]; try omega)
  · rintro k ⟨h1, h2⟩ N hN
    by_cases hk : k = 0
    · subst hk
      (try simp (maxSteps := 1000000) (disch := first | omega | (simp only [LN, numOk, verOk, rfP, rvP, rhP, frP] <;> omega) | exact Ck.mk rfl) only [VC, T, Nat.reduceMul, Nat.reduceAdd, Nat.reduceSub, Nat.reduceLT, Nat.reduceEqDiff, Nat.reduceLeDiff, Nat.reduceBEq, reduceCtorEq, Int.reduceToNat, ↓reduceIte, rfP, rvP, rhP, frP])
      repeat' (first
        | (refine br_go (fun e f => ?_) (fun e f => ?_) <;> (try simp only [BB] at f) <;> (try simp only [numOk, verOk] at f) <;> (try simp (maxSteps := 1000000) (disch := first | omega | (simp only [LN, numOk, verOk, rfP, rvP, rhP, frP] <;> omega) | exact Ck.mk rfl) only [e, VC, T, Nat.reduceMul, Nat.reduceAdd, Nat.reduceSub, Nat.reduceLT, Nat.reduceEqDiff, Nat.reduceLeDiff, Nat.reduceBEq, reduceCtorEq, Int.reduceToNat, ↓reduceIte, rfP, rvP, rhP, frP]) <;> (try clear e))
        | (refine pick_go (fun e f => ?_) (fun e f => ?_) <;> (try simp only [BB] at f) <;> (try simp only [numOk, verOk] at f) <;> (try simp (maxSteps := 1000000) (disch := first | omega | (simp only [LN, numOk, verOk, rfP, rvP, rhP, frP] <;> omega) | exact Ck.mk rfl) only [e, VC, T, Nat.reduceMul, Nat.reduceAdd, Nat.reduceSub, Nat.reduceLT, Nat.reduceEqDiff, Nat.reduceLeDiff, Nat.reduceBEq, reduceCtorEq, Int.reduceToNat, ↓reduceIte, rfP, rvP, rhP, frP]) <;> (try clear e)))
      rw [h2]; rfl
    · obtain ⟨j, rfl⟩ : ∃ j, k = j + 1 := ⟨k - 1, by omega⟩
      have hg : (ps.map plP).getD j .junk = .agg [.int .i64 (ps.getD j default).1, .int .i64 (ps.getD j default).2] := by
        rw [List.getD_eq_getElem?_getD, List.getElem?_map, List.getElem?_eq_getElem (by omega), List.getD_eq_getElem?_getD, List.getElem?_eq_getElem (by omega)]; rfl
      have ht : pfor n (ps.take (j + 1)) = if (ps.getD j default).1 ≤ n then (ps.getD j default, true) else pfor n (ps.take j) := by
        rw [List.take_succ_eq_append_getElem (by omega), pfor_snoc, List.getD_eq_getElem?_getD, List.getElem?_eq_getElem (by omega)]; rfl
      rw [ht] at h2
      have e1 : ((j + 1 : Nat) : Int) - 1 = (j : Int) := by omega
      simp only [e1] at *
      (try simp (maxSteps := 1000000) (disch := first | omega | (simp only [LN, numOk, verOk, rfP, rvP, rhP, frP, hg] <;> omega) | exact Ck.mk rfl) only [VC, T, Nat.reduceMul, Nat.reduceAdd, Nat.reduceSub, Nat.reduceLT, Nat.reduceEqDiff, Nat.reduceLeDiff, Nat.reduceBEq, reduceCtorEq, Int.reduceToNat, ↓reduceIte, rfP, rvP, rhP, frP, hg])
      repeat' (first
        | (refine br_go (fun e f => ?_) (fun e f => ?_) <;> (try simp only [BB] at f) <;> (try simp only [numOk, verOk] at f) <;> (try simp (maxSteps := 1000000) (disch := first | omega | (simp only [LN, numOk, verOk, rfP, rvP, rhP, frP, hg] <;> omega) | exact Ck.mk rfl) only [e, VC, T, Nat.reduceMul, Nat.reduceAdd, Nat.reduceSub, Nat.reduceLT, Nat.reduceEqDiff, Nat.reduceLeDiff, Nat.reduceBEq, reduceCtorEq, Int.reduceToNat, ↓reduceIte, rfP, rvP, rhP, frP, hg]) <;> (try clear e))
        | (refine pick_go (fun e f => ?_) (fun e f => ?_) <;> (try simp only [BB] at f) <;> (try simp only [numOk, verOk] at f) <;> (try simp (maxSteps := 1000000) (disch := first | omega | (simp only [LN, numOk, verOk, rfP, rvP, rhP, frP, hg] <;> omega) | exact Ck.mk rfl) only [e, VC, T, Nat.reduceMul, Nat.reduceAdd, Nat.reduceSub, Nat.reduceLT, Nat.reduceEqDiff, Nat.reduceLeDiff, Nat.reduceBEq, reduceCtorEq, Int.reduceToNat, ↓reduceIte, rfP, rvP, rhP, frP, hg]) <;> (try clear e)))
      · rw [h2, if_pos f]; rfl
      · refine hN j _ ⟨by omega, by rw [h2, if_neg (by omega)]⟩ (by omega) ?_
        (simp (disch := first | omega | (simp only [LN, numOk, verOk] <;> omega) | exact Ck.mk rfl) only [SB, EQ, Nat.reduceMul, Nat.reduceAdd, Nat.reduceSub, Nat.reduceLT, Nat.reduceEqDiff, Nat.reduceLeDiff, Nat.reduceBEq, reduceCtorEq, Int.reduceToNat, ↓reduceIte]; try omega)
theorem spec_PlaceFor (ps : List (Int × Int)) (n : Int) (hx : ps.length ≤ 1073741824) : Fn Try.prog 20 [.far (ps.map plP), .int .i64 n] [] (pfP (pfor n ps)) [] := by
  refine fn_x tok (n := 26) (rs := [.cell 4 29, .tmp 5]) Try.func20 (by decide) rfl rfl rfl rfl ?_
  (try simp (maxSteps := 1000000) (disch := first | omega | (simp only [LN, numOk, verOk, rfP, rvP, rhP, frP] <;> omega) | exact Ck.mk rfl) only [VC, T, Nat.reduceMul, Nat.reduceAdd, Nat.reduceSub, Nat.reduceLT, Nat.reduceEqDiff, Nat.reduceLeDiff, Nat.reduceBEq, reduceCtorEq, Int.reduceToNat, ↓reduceIte, rfP, rvP, rhP, frP])
  repeat' (first
    | (refine br_go (fun e f => ?_) (fun e f => ?_) <;> (try simp only [BB] at f) <;> (try simp only [numOk, verOk] at f) <;> (try simp (maxSteps := 1000000) (disch := first | omega | (simp only [LN, numOk, verOk, rfP, rvP, rhP, frP] <;> omega) | exact Ck.mk rfl) only [e, VC, T, Nat.reduceMul, Nat.reduceAdd, Nat.reduceSub, Nat.reduceLT, Nat.reduceEqDiff, Nat.reduceLeDiff, Nat.reduceBEq, reduceCtorEq, Int.reduceToNat, ↓reduceIte, rfP, rvP, rhP, frP]) <;> (try clear e))
    | (refine pick_go (fun e f => ?_) (fun e f => ?_) <;> (try simp only [BB] at f) <;> (try simp only [numOk, verOk] at f) <;> (try simp (maxSteps := 1000000) (disch := first | omega | (simp only [LN, numOk, verOk, rfP, rvP, rhP, frP] <;> omega) | exact Ck.mk rfl) only [e, VC, T, Nat.reduceMul, Nat.reduceAdd, Nat.reduceSub, Nat.reduceLT, Nat.reduceEqDiff, Nat.reduceLeDiff, Nat.reduceBEq, reduceCtorEq, Int.reduceToNat, ↓reduceIte, rfP, rvP, rhP, frP]) <;> (try clear e)))
  refine lp_go (fun k : Nat => ⟨26, [(0, .far (ps.map plP)), (1, .int .i64 n), (4, .ref 320 0), (6, .int .i64 ((k : Int) - 1))], [(320, .box 29 [.int .i64 0, .int .i64 0])]⟩) (fun k => k ≤ ps.length ∧ pfor n ps = pfor n (ps.take k)) (fun k => k) ps.length ?_ ⟨Nat.le_refl _, by rw [List.take_length]⟩ ?_
  · (simp (disch := first | omega | (simp only [LN, numOk, verOk] <;> omega) | exact Ck.mk rfl) only [SB, EQ, Nat.reduceMul, Nat.reduceAdd, Nat.reduceSub, Nat.reduceLT, Nat.reduceEqDiff, Nat.reduceLeDiff, Nat.reduceBEq, reduceCtorEq, Int.reduceToNat, ↓reduceIte]; try omega)
  · rintro k ⟨h1, h2⟩ N hN
    by_cases hk : k = 0
    · subst hk
      (try simp (maxSteps := 1000000) (disch := first | omega | (simp only [LN, numOk, verOk, rfP, rvP, rhP, frP] <;> omega) | exact Ck.mk rfl) only [VC, T, Nat.reduceMul, Nat.reduceAdd, Nat.reduceSub, Nat.reduceLT, Nat.reduceEqDiff, Nat.reduceLeDiff, Nat.reduceBEq, reduceCtorEq, Int.reduceToNat, ↓reduceIte, rfP, rvP, rhP, frP])
      repeat' (first
        | (refine br_go (fun e f => ?_) (fun e f => ?_) <;> (try simp only [BB] at f) <;> (try simp only [numOk, verOk] at f) <;> (try simp (maxSteps := 1000000) (disch := first | omega | (simp only [LN, numOk, verOk, rfP, rvP, rhP, frP] <;> omega) | exact Ck.mk rfl) only [e, VC, T, Nat.reduceMul, Nat.reduceAdd, Nat.reduceSub, Nat.reduceLT, Nat.reduceEqDiff, Nat.reduceLeDiff, Nat.reduceBEq, reduceCtorEq, Int.reduceToNat, ↓reduceIte, rfP, rvP, rhP, frP]) <;> (try clear e))
        | (refine pick_go (fun e f => ?_) (fun e f => ?_) <;> (try simp only [BB] at f) <;> (try simp only [numOk, verOk] at f) <;> (try simp (maxSteps := 1000000) (disch := first | omega | (simp only [LN, numOk, verOk, rfP, rvP, rhP, frP] <;> omega) | exact Ck.mk rfl) only [e, VC, T, Nat.reduceMul, Nat.reduceAdd, Nat.reduceSub, Nat.reduceLT, Nat.reduceEqDiff, Nat.reduceLeDiff, Nat.reduceBEq, reduceCtorEq, Int.reduceToNat, ↓reduceIte, rfP, rvP, rhP, frP]) <;> (try clear e)))
      rw [h2]; rfl
    · obtain ⟨j, rfl⟩ : ∃ j, k = j + 1 := ⟨k - 1, by omega⟩
      have hg : (ps.map plP).getD j .junk = .agg [.int .i64 (ps.getD j default).1, .int .i64 (ps.getD j default).2] := by
        rw [List.getD_eq_getElem?_getD, List.getElem?_map, List.getElem?_eq_getElem (by omega), List.getD_eq_getElem?_getD, List.getElem?_eq_getElem (by omega)]; rfl
      have ht : pfor n (ps.take (j + 1)) = if (ps.getD j default).1 ≤ n then (ps.getD j default, true) else pfor n (ps.take j) := by
        rw [List.take_succ_eq_append_getElem (by omega), pfor_snoc, List.getD_eq_getElem?_getD, List.getElem?_eq_getElem (by omega)]; rfl
      rw [ht] at h2
      have e1 : ((j + 1 : Nat) : Int) - 1 = (j : Int) := by omega
      simp only [e1] at *
      (try simp (maxSteps := 1000000) (disch := first | omega | (simp only [LN, numOk, verOk, rfP, rvP, rhP, frP, hg] <;> omega) | exact Ck.mk rfl) only [VC, T, Nat.reduceMul, Nat.reduceAdd, Nat.reduceSub, Nat.reduceLT, Nat.reduceEqDiff, Nat.reduceLeDiff, Nat.reduceBEq, reduceCtorEq, Int.reduceToNat, ↓reduceIte, rfP, rvP, rhP, frP, hg])
      repeat' (first
        | (refine br_go (fun e f => ?_) (fun e f => ?_) <;> (try simp only [BB] at f) <;> (try simp only [numOk, verOk] at f) <;> (try simp (maxSteps := 1000000) (disch := first | omega | (simp only [LN, numOk, verOk, rfP, rvP, rhP, frP, hg] <;> omega) | exact Ck.mk rfl) only [e, VC, T, Nat.reduceMul, Nat.reduceAdd, Nat.reduceSub, Nat.reduceLT, Nat.reduceEqDiff, Nat.reduceLeDiff, Nat.reduceBEq, reduceCtorEq, Int.reduceToNat, ↓reduceIte, rfP, rvP, rhP, frP, hg]) <;> (try clear e))
        | (refine pick_go (fun e f => ?_) (fun e f => ?_) <;> (try simp only [BB] at f) <;> (try simp only [numOk, verOk] at f) <;> (try simp (maxSteps := 1000000) (disch := first | omega | (simp only [LN, numOk, verOk, rfP, rvP, rhP, frP, hg] <;> omega) | exact Ck.mk rfl) only [e, VC, T, Nat.reduceMul, Nat.reduceAdd, Nat.reduceSub, Nat.reduceLT, Nat.reduceEqDiff, Nat.reduceLeDiff, Nat.reduceBEq, reduceCtorEq, Int.reduceToNat, ↓reduceIte, rfP, rvP, rhP, frP, hg]) <;> (try clear e)))
      · rw [h2, if_pos f]; rfl
      · refine hN j _ ⟨by omega, by rw [h2, if_neg (by omega)]⟩ (by omega) ?_
        (simp (disch := first | omega | (simp only [LN, numOk, verOk] <;> omega) | exact Ck.mk rfl) only [SB, EQ, Nat.reduceMul, Nat.reduceAdd, Nat.reduceSub, Nat.reduceLT, Nat.reduceEqDiff, Nat.reduceLeDiff, Nat.reduceBEq, reduceCtorEq, Int.reduceToNat, ↓reduceIte]; try omega)
end Go.Pv

/- What functions of the program and of the reference do, in plain values. -/
namespace Go.Pv
open Go.Proofs Go.Mth
set_option linter.unusedSimpArgs false
set_option linter.unusedVariables false
set_option maxHeartbeats 4000000

/-! ### laws over slices -/
theorem law_FnExactPlaceFor (ps : List (Int × Int)) (n : Int) (hr : ps.length ≤ 9223372036854775807 ∧ ∀ p ∈ ps, i64 p.1 ∧ i64 p.2) (hn : i64 n) : Fn Try.prog 5 [.far (ps.map plP), .int .i64 n] [] (.bool true) [] := by
  refine fn_x tok (n := 45) (rs := [.tmp 4]) Try.func5 (by decide) rfl rfl rfl rfl ?_
  (try simp (maxSteps := 1000000) (disch := first | omega | (simp only [LN, numOk, verOk, rtP, beq_self_eq_true, pfP] <;> omega) | exact Ck.mk rfl) only [VC, T, Nat.reduceMul, Nat.reduceAdd, Nat.reduceSub, Nat.reduceLT, Nat.reduceEqDiff, Nat.reduceLeDiff, Nat.reduceBEq, reduceCtorEq, Int.reduceToNat, ↓reduceIte, rtP, beq_self_eq_true, pfP])
  repeat' (first
    | (refine br_go (fun e f => ?_) (fun e f => ?_) <;> (try simp only [BB] at f) <;> (try simp only [numOk, verOk] at f) <;> (try simp (maxSteps := 1000000) (disch := first | omega | (simp only [LN, numOk, verOk, rtP, beq_self_eq_true, pfP] <;> omega) | exact Ck.mk rfl) only [e, VC, T, Nat.reduceMul, Nat.reduceAdd, Nat.reduceSub, Nat.reduceLT, Nat.reduceEqDiff, Nat.reduceLeDiff, Nat.reduceBEq, reduceCtorEq, Int.reduceToNat, ↓reduceIte, rtP, beq_self_eq_true, pfP]) <;> (try clear e))
    | (refine pick_go (fun e f => ?_) (fun e f => ?_) <;> (try simp only [BB] at f) <;> (try simp only [numOk, verOk] at f) <;> (try simp (maxSteps := 1000000) (disch := first | omega | (simp only [LN, numOk, verOk, rtP, beq_self_eq_true, pfP] <;> omega) | exact Ck.mk rfl) only [e, VC, T, Nat.reduceMul, Nat.reduceAdd, Nat.reduceSub, Nat.reduceLT, Nat.reduceEqDiff, Nat.reduceLeDiff, Nat.reduceBEq, reduceCtorEq, Int.reduceToNat, ↓reduceIte, rtP, beq_self_eq_true, pfP]) <;> (try clear e))
    | ((first | (refine call_v (laws_szPlaceS ps 1048576 (by decide) hr.1) rfl ?_; rintro _ ⟨m, rfl, hm1, hm2, hm3⟩; refine ⟨⟨rfl⟩, ?_⟩)); (try simp (maxSteps := 1000000) (disch := first | omega | (simp only [LN, numOk, verOk, rtP, beq_self_eq_true, pfP] <;> omega) | exact Ck.mk rfl) only [VC, T, Nat.reduceMul, Nat.reduceAdd, Nat.reduceSub, Nat.reduceLT, Nat.reduceEqDiff, Nat.reduceLeDiff, Nat.reduceBEq, reduceCtorEq, Int.reduceToNat, ↓reduceIte, rtP, beq_self_eq_true, pfP])))
  have h1 : ps.length ≤ 1048576 := by omega
  (try simp (maxSteps := 1000000) (disch := first | omega | (simp only [LN, numOk, verOk, rtP, beq_self_eq_true, pfP] <;> omega) | exact Ck.mk rfl) only [VC, T, Nat.reduceMul, Nat.reduceAdd, Nat.reduceSub, Nat.reduceLT, Nat.reduceEqDiff, Nat.reduceLeDiff, Nat.reduceBEq, reduceCtorEq, Int.reduceToNat, ↓reduceIte, rtP, beq_self_eq_true, pfP])
  repeat' (first
    | (refine br_go (fun e f => ?_) (fun e f => ?_) <;> (try simp only [BB] at f) <;> (try simp only [numOk, verOk] at f) <;> (try simp (maxSteps := 1000000) (disch := first | omega | (simp only [LN, numOk, verOk, rtP, beq_self_eq_true, pfP] <;> omega) | exact Ck.mk rfl) only [e, VC, T, Nat.reduceMul, Nat.reduceAdd, Nat.reduceSub, Nat.reduceLT, Nat.reduceEqDiff, Nat.reduceLeDiff, Nat.reduceBEq, reduceCtorEq, Int.reduceToNat, ↓reduceIte, rtP, beq_self_eq_true, pfP]) <;> (try clear e))
    | (refine pick_go (fun e f => ?_) (fun e f => ?_) <;> (try simp only [BB] at f) <;> (try simp only [numOk, verOk] at f) <;> (try simp (maxSteps := 1000000) (disch := first | omega | (simp only [LN, numOk, verOk, rtP, beq_self_eq_true, pfP] <;> omega) | exact Ck.mk rfl) only [e, VC, T, Nat.reduceMul, Nat.reduceAdd, Nat.reduceSub, Nat.reduceLT, Nat.reduceEqDiff, Nat.reduceLeDiff, Nat.reduceBEq, reduceCtorEq, Int.reduceToNat, ↓reduceIte, rtP, beq_self_eq_true, pfP]) <;> (try clear e))
    | ((first | refine call_x (laws_toPlaceS _ (by omega)) rfl ⟨rfl⟩ ?_ | refine call_x (spec_PlaceFor _ _ (by omega)) rfl ⟨rfl⟩ ?_ | refine call_x (impl_PlaceFor _ _ (by omega)) rfl ⟨rfl⟩ ?_ | refine call_x (laws_eqPlaceS _ _ (by omega)) rfl ⟨rfl⟩ ?_ | refine call_x (laws_eqPlace _ _) rfl ⟨rfl⟩ ?_); (try simp (maxSteps := 1000000) (disch := first | omega | (simp only [LN, numOk, verOk, rtP, beq_self_eq_true, pfP] <;> omega) | exact Ck.mk rfl) only [VC, T, Nat.reduceMul, Nat.reduceAdd, Nat.reduceSub, Nat.reduceLT, Nat.reduceEqDiff, Nat.reduceLeDiff, Nat.reduceBEq, reduceCtorEq, Int.reduceToNat, ↓reduceIte, rtP, beq_self_eq_true, pfP])))
theorem law_FnExactPlacesText (ps : List (Int × Int)) (hr : ps.length ≤ 9223372036854775807 ∧ ∀ p ∈ ps, i64 p.1 ∧ i64 p.2) : Fn Try.prog 13 [.far (ps.map plP)] [] (.bool true) [] := by
  refine fn_x tok (n := 27) (rs := [.tmp 2]) Try.func13 (by decide) rfl rfl rfl rfl ?_
  (try simp (maxSteps := 1000000) (disch := first | omega | (simp only [LN, numOk, verOk, rtP, beq_self_eq_true, pfP] <;> omega) | exact Ck.mk rfl) only [VC, T, Nat.reduceMul, Nat.reduceAdd, Nat.reduceSub, Nat.reduceLT, Nat.reduceEqDiff, Nat.reduceLeDiff, Nat.reduceBEq, reduceCtorEq, Int.reduceToNat, ↓reduceIte, rtP, beq_self_eq_true, pfP])
  repeat' (first
    | (refine br_go (fun e f => ?_) (fun e f => ?_) <;> (try simp only [BB] at f) <;> (try simp only [numOk, verOk] at f) <;> (try simp (maxSteps := 1000000) (disch := first | omega | (simp only [LN, numOk, verOk, rtP, beq_self_eq_true, pfP] <;> omega) | exact Ck.mk rfl) only [e, VC, T, Nat.reduceMul, Nat.reduceAdd, Nat.reduceSub, Nat.reduceLT, Nat.reduceEqDiff, Nat.reduceLeDiff, Nat.reduceBEq, reduceCtorEq, Int.reduceToNat, ↓reduceIte, rtP, beq_self_eq_true, pfP]) <;> (try clear e))
    | (refine pick_go (fun e f => ?_) (fun e f => ?_) <;> (try simp only [BB] at f) <;> (try simp only [numOk, verOk] at f) <;> (try simp (maxSteps := 1000000) (disch := first | omega | (simp only [LN, numOk, verOk, rtP, beq_self_eq_true, pfP] <;> omega) | exact Ck.mk rfl) only [e, VC, T, Nat.reduceMul, Nat.reduceAdd, Nat.reduceSub, Nat.reduceLT, Nat.reduceEqDiff, Nat.reduceLeDiff, Nat.reduceBEq, reduceCtorEq, Int.reduceToNat, ↓reduceIte, rtP, beq_self_eq_true, pfP]) <;> (try clear e))
    | ((first | (refine call_v (laws_szPlaceS ps 1048576 (by decide) hr.1) rfl ?_; rintro _ ⟨m, rfl, hm1, hm2, hm3⟩; refine ⟨⟨rfl⟩, ?_⟩)); (try simp (maxSteps := 1000000) (disch := first | omega | (simp only [LN, numOk, verOk, rtP, beq_self_eq_true, pfP] <;> omega) | exact Ck.mk rfl) only [VC, T, Nat.reduceMul, Nat.reduceAdd, Nat.reduceSub, Nat.reduceLT, Nat.reduceEqDiff, Nat.reduceLeDiff, Nat.reduceBEq, reduceCtorEq, Int.reduceToNat, ↓reduceIte, rtP, beq_self_eq_true, pfP])))
  have h1 : ps.length ≤ 1048576 := by omega
  (try simp (maxSteps := 1000000) (disch := first | omega | (simp only [LN, numOk, verOk, rtP, beq_self_eq_true, pfP] <;> omega) | exact Ck.mk rfl) only [VC, T, Nat.reduceMul, Nat.reduceAdd, Nat.reduceSub, Nat.reduceLT, Nat.reduceEqDiff, Nat.reduceLeDiff, Nat.reduceBEq, reduceCtorEq, Int.reduceToNat, ↓reduceIte, rtP, beq_self_eq_true, pfP])
  repeat' (first
    | (refine br_go (fun e f => ?_) (fun e f => ?_) <;> (try simp only [BB] at f) <;> (try simp only [numOk, verOk] at f) <;> (try simp (maxSteps := 1000000) (disch := first | omega | (simp only [LN, numOk, verOk, rtP, beq_self_eq_true, pfP] <;> omega) | exact Ck.mk rfl) only [e, VC, T, Nat.reduceMul, Nat.reduceAdd, Nat.reduceSub, Nat.reduceLT, Nat.reduceEqDiff, Nat.reduceLeDiff, Nat.reduceBEq, reduceCtorEq, Int.reduceToNat, ↓reduceIte, rtP, beq_self_eq_true, pfP]) <;> (try clear e))
    | (refine pick_go (fun e f => ?_) (fun e f => ?_) <;> (try simp only [BB] at f) <;> (try simp only [numOk, verOk] at f) <;> (try simp (maxSteps := 1000000) (disch := first | omega | (simp only [LN, numOk, verOk, rtP, beq_self_eq_true, pfP] <;> omega) | exact Ck.mk rfl) only [e, VC, T, Nat.reduceMul, Nat.reduceAdd, Nat.reduceSub, Nat.reduceLT, Nat.reduceEqDiff, Nat.reduceLeDiff, Nat.reduceBEq, reduceCtorEq, Int.reduceToNat, ↓reduceIte, rtP, beq_self_eq_true, pfP]) <;> (try clear e))
    | ((first | refine call_x (laws_toPlaceS _ (by omega)) rfl ⟨rfl⟩ ?_ | refine call_x (spec_PlacesText _ (by omega) hr.2) rfl ⟨rfl⟩ ?_ | refine call_x (impl_PlacesText _ (by omega) hr.2) rfl ⟨rfl⟩ ?_ | refine call_x (laws_eqPlaceS _ _ (by omega)) rfl ⟨rfl⟩ ?_); (try simp (maxSteps := 1000000) (disch := first | omega | (simp only [LN, numOk, verOk, rtP, beq_self_eq_true, pfP] <;> omega) | exact Ck.mk rfl) only [VC, T, Nat.reduceMul, Nat.reduceAdd, Nat.reduceSub, Nat.reduceLT, Nat.reduceEqDiff, Nat.reduceLeDiff, Nat.reduceBEq, reduceCtorEq, Int.reduceToNat, ↓reduceIte, rtP, beq_self_eq_true, pfP])))
end Go.Pv

/- What a law's contract in plain values says of its walk. -/
namespace Go.Pv

variable {P : Program}
theorem kp_below {Γ : Nat → Value} {w w' : World} (h : Kp (Ow Γ []) w w') : Go.RowKit.Below w.heap.size w w' :=
  ⟨h.os, h.tape, h.output, h.size, fun k hk => h.block k hk fun ⟨_, l, _⟩ => l.elim⟩
/-- Nothing is handed over. -/
def No : Bl := fun _ => False
def Ga : Nat → Value := fun _ => .bool false
/-- The arguments of a law. -/
def Lay (w : World) (args : List PV) (vs : List Value) : Prop := vs.length = args.length ∧ ∀ (i : Nat) (x : PV) (v : Value), args[i]? = some x → vs[i]? = some v → DR w No x v
theorem lay_nil {w : World} : Lay w [] [] := ⟨rfl, fun _ _ _ h => by simp at h⟩
theorem lay_cons {w : World} {x : PV} {v : Value} {xs : List PV} {vs : List Value} (h : DR w No x v) (k : Lay w xs vs) : Lay w (x :: xs) (v :: vs) :=
  ⟨congrArg (· + 1) k.1, fun i y u h1 h2 => by
    cases i with
    | zero => simp at h1 h2; obtain rfl := h1; obtain rfl := h2; exact h
    | succ i => exact k.2 i y u (by simpa using h1) (by simpa using h2)⟩
theorem Fn.law {f : FuncId} {args : List PV} {vs : List Value} {w : World} {b : Bool} (h : Fn P f args [] (.bool b) []) (hl : Lay w args vs) :
    Calls P f vs.toArray w fun e w' => e = .returned (.bool b) ∧ Go.RowKit.Below w.heap.size w w' := by
  have no : ∀ b, ¬ Av No Ga [] b := fun b hb => hb.elim id fun ⟨_, l, _⟩ => l
  refine (h.run w No Ga vs.toArray (fun _ h => h.elim) (by simpa using hl.1) (fun i x hx => ?_) (fun _ => trivial) fun _ _ _ l => l.elim).mono ?_
  · have hi : i < vs.length := by
      rw [hl.1]
      exact (List.getElem?_eq_some_iff.1 hx).1
    have e := hl.2 i x vs[i] hx (List.getElem?_eq_getElem hi)
    have g : vs.toArray.getD i undef = vs[i] := by simp [Array.getD, hi]
    rw [g]
    exact .data (e.step (fun _ _ _ => rfl) fun b _ hb => (no b hb).elim)
  · rintro e w' ⟨v, Γ', rfl, h1, h2, _⟩
    refine ⟨?_, kp_below h1⟩
    cases h2 with
    | data h => cases h; rfl
end Go.Pv

/- A law's arguments, opened: whole numbers, texts, slices and structs of them. -/
namespace Go.Pv
open Go.RowKit Go.WideShapes

section
variable {H : Type} {enc : TypeId × Value → H} {P : Program} {w : World} {α β : Type}

/-- What is read at type t, out of k cells, is 'f a', for an a of which R holds. -/
def Opn (enc : TypeId × Value → H) (P : Program) (w : World) (t : TypeId) (k : Nat) (f : α → PV) (R : α → Prop) : Prop :=
  ∀ (fuel : Nat) (cs : List Value) (d : DataW H × List MemPlace), DataW.trod enc P w 0 (fun _ => true) true fuel t cs = some d →
    cs.length = k ∧ ∃ a, R a ∧ (flat (f a)).length = k ∧ ∀ (j : Nat) (y : PV), (flat (f a))[j]? = some y → DR w No y (cs.getD j undef)
theorem one_dr {x : PV} {v : Value} (hx : flat x = [x]) (h : DR w No x v) : (flat x).length = 1 ∧ ∀ (j : Nat) (y : PV), (flat x)[j]? = some y → DR w No y ([v].getD j undef) := by
  rw [hx]
  refine ⟨rfl, fun j y hy => ?_⟩
  cases j with
  | zero => cases hy; exact h
  | succ j => simp at hy
theorem opn_int {t : TypeId} {k : IntKind} (ht : P.underlying t = some (.int k)) : Opn enc P w t 1 (PV.int k) (fun n => (Lit.int k n).wf = true) := fun fuel cs d h => by
  obtain ⟨n, rfl, _, hw⟩ := DataW.trod_int ht h
  exact ⟨rfl, n, hw, one_dr rfl (.int k n)⟩
theorem int_wf {n : Int} (h : (Lit.int .i64 n).wf = true) : -9223372036854775808 ≤ n ∧ n ≤ 9223372036854775807 := by
  simp only [Lit.wf, Bool.and_eq_true, decide_eq_true_eq] at h
  exact h
theorem opn_i64 {t : TypeId} (ht : P.underlying t = some (.int .i64)) : Opn enc P w t 1 (PV.int .i64) (fun n => -9223372036854775808 ≤ n ∧ n ≤ 9223372036854775807) := fun fuel cs d h => by
  obtain ⟨h1, a, h2, h3⟩ := opn_int ht fuel cs d h
  exact ⟨h1, a, int_wf h2, h3⟩
theorem opn_bool {t : TypeId} (ht : P.underlying t = some .bool) : Opn enc P w t 1 PV.bool (fun _ => True) := fun fuel cs d h => by
  obtain ⟨n, rfl, _⟩ := DataW.trod_bool ht h
  exact ⟨rfl, n, trivial, one_dr rfl (.bool n)⟩
theorem opn_str {t : TypeId} (ht : P.underlying t = some .string) : Opn enc P w t 1 PV.str (fun s => s.size ≤ 9223372036854775807) := fun fuel cs d h => by
  obtain ⟨s, rfl, _, hs⟩ := DataW.trod_string ht h
  exact ⟨rfl, s, hs, one_dr rfl (.str s)⟩
theorem all_list {Q : Nat → α → Prop} : ∀ (n : Nat), (∀ i, i < n → ∃ a, Q i a) → ∃ l : List α, l.length = n ∧ ∀ i a, l[i]? = some a → Q i a
  | 0, _ => ⟨[], rfl, fun i a h => by simp at h⟩
  | n + 1, h => by
    obtain ⟨l, h1, h2⟩ := all_list n fun i hi => h i (by omega)
    obtain ⟨a, ha⟩ := h n (by omega)
    refine ⟨l ++ [a], by simp [h1], fun i x hx => ?_⟩
    by_cases hi : i < l.length
    · rw [List.getElem?_append_left hi] at hx; exact h2 i x hx
    · rw [List.getElem?_append_right (by omega)] at hx
      by_cases e : i = l.length
      · subst e; rw [Nat.sub_self] at hx; cases hx; rw [h1]; exact ha
      · rw [show i - l.length = (i - l.length - 1) + 1 by omega] at hx; simp at hx
theorem opn_slice {t e : TypeId} {k : Nat} {f : α → PV} {R : α → Prop} (ht : P.underlying t = some (.slice e)) (hk : P.cellsOf e = k) (h0 : 0 < k) (he : Opn enc P w e k f R) :
    Opn enc P w t 1 (fun l : List α => .far (l.map f)) (fun l => l.length ≤ 9223372036854775807 ∧ ∀ a ∈ l, R a) := fun fuel cs d h => by
  rcases DataW.trod_slice ht h with ⟨rfl, _⟩ | ⟨a, len, cap, elems, rest, n, _, rfl, _, _, hl, hm, hlen, hel, _, _⟩
  · exact ⟨rfl, [], ⟨by simp, by simp⟩, one_dr rfl (.far0 _ _)⟩
  · refine ⟨rfl, ?_⟩
    rw [hk] at hel
    have each : ∀ i, i < len → ∃ x, R x ∧ (flat (f x)).length = k ∧ ∀ (j : Nat) (y : PV), (flat (f x))[j]? = some y → ∃ v, w.cell? ((a.add (i * k)).add j) = some v ∧ DR w No y v := fun i hi => by
      have h1 := hel i hi
      rw [List.getElem?_eq_getElem (by omega), Option.bind_eq_some_iff] at h1
      obtain ⟨cs, h2, h3⟩ := h1
      obtain ⟨h4, x, h5, h6, h7⟩ := he _ _ _ h3
      refine ⟨x, h5, h6, fun j y hy => ?_⟩
      have hj : j < k := by rw [← h6]; exact (List.getElem?_eq_some_iff.1 hy).1
      unfold World.cells? at h2
      rw [if_pos (Nat.zero_le _)] at h2
      have h8 := mapM_some_get h2 j j (by simp [hj])
      rw [List.getElem?_eq_getElem (by omega)] at h8
      refine ⟨_, h8, ?_⟩
      have := h7 j y hy
      rw [List.getD_eq_getElem?_getD, List.getElem?_eq_getElem (by omega)] at this
      exact this
    obtain ⟨l, h1, h2⟩ := all_list len each
    refine ⟨l, ⟨by rw [h1]; exact Nat.le_trans hl hm, fun x hx => ?_⟩, one_dr rfl ?_⟩
    · obtain ⟨i, hi⟩ := List.getElem?_of_mem hx
      exact (h2 i x hi).1
    · by_cases hz : len = 0
      · obtain rfl : l = [] := List.eq_nil_of_length_eq_zero (by omega)
        subst hz
        exact .far0 _ _
      · obtain ⟨β, o, spot⟩ := a
        have cell : ∀ (i : Nat) (x : α) (j : Nat) (y : PV), l[i]? = some x → (flat (f x))[j]? = some y → ∃ v, w.cell? ⟨β, o + i * k + j, if i * k = 0 ∧ j = 0 then spot else none⟩ = some v ∧ DR w No y v := fun i x j y hx hy => by
          obtain ⟨v, q1, q2⟩ := (h2 i x hx).2.2 j y hy
          refine ⟨v, ?_, q2⟩
          rw [← q1]
          unfold Addr.add
          by_cases e1 : i * k = 0 <;> by_cases e2 : j = 0 <;> simp [e1, e2]
        obtain ⟨x0, hx0⟩ : ∃ x, l[0]? = some x := ⟨l[0]'(by omega), List.getElem?_eq_getElem (by omega)⟩
        have hfl := (h2 0 x0 hx0).2.1
        obtain ⟨v, q1, _⟩ := cell 0 x0 0 ((flat (f x0))[0]'(by omega)) hx0 (List.getElem?_eq_getElem (by omega))
        simp only [Nat.zero_mul, true_and, and_self, if_true] at q1
        obtain ⟨c, t', fr, hw, hs⟩ : ∃ c t' fr, w.heap[β]? = some (.cells c t' fr) ∧ spot = none := by
          unfold World.cell? at q1
          split at q1
          · rename_i c t' fr hw
            refine ⟨c, t', fr, hw, ?_⟩
            cases spot with
            | none => rfl
            | some s => simp at q1
          · cases q1
        subst hs
        simp only [ite_self] at cell
        have cc : ∀ (i : Nat) (x : α) (j : Nat) (y : PV), l[i]? = some x → (flat (f x))[j]? = some y → o + i * k + j < c.size ∧ DR w No y (c.getD (o + i * k + j) undef) := fun i x j y hx hy => by
          obtain ⟨v, q1, q2⟩ := cell i x j y hx hy
          unfold World.cell? at q1
          simp only [hw] at q1
          have q3 := (Array.getElem?_eq_some_iff.1 (by simpa using q1 : c[o + i * k + j]? = some v)).1
          refine ⟨q3, ?_⟩
          have q4 : c[o + i * k + j]? = some v := by simpa using q1
          rw [Array.getD_eq_getD_getElem?, q4]
          exact q2
        have pick : ∀ (i : Nat) (x : PV), (l.map f)[i]? = some x → ∃ a, l[i]? = some a ∧ x = f a := fun i x hx => by
          rw [List.getElem?_map, Option.map_eq_some_iff] at hx
          obtain ⟨a, ha, rfl⟩ := hx
          exact ⟨a, ha, rfl⟩
        have key := DR.far (w := w) (A := No) (l.map f) β o cap k c t' fr (fun h => h) hw (by simpa [h1] using hl)
          (fun i x hx => by obtain ⟨a, ha, rfl⟩ := pick i x hx; exact (h2 i a ha).2.1)
          (fun i x j y hx hy => by obtain ⟨a, ha, rfl⟩ := pick i x hx; exact (cc i a j y ha hy).1)
          (fun i x j y hx hy => by obtain ⟨a, ha, rfl⟩ := pick i x hx; exact (cc i a j y ha hy).2)
        rw [List.length_map, h1] at key
        exact key
/-- The fields of a struct, from cell 'off' on, each of one cell. -/
def OpnF (enc : TypeId × Value → H) (P : Program) (w : World) (fs : List Field) (off : Nat) (f : α → List PV) (R : α → Prop) : Prop :=
  ∀ (n : Nat) (cs : List Value), (∀ (i : Nat) (fl : Field), fs[i]? = some fl → ∃ d, DataW.trod enc P w 0 (fun _ => true) true n fl.type ((cs.drop fl.offset).take (P.cellsOf fl.type)) = some d) →
    ∃ a, R a ∧ (f a).length = fs.length ∧ ∀ (j : Nat) (y : PV), (f a)[j]? = some y → DR w No y (cs.getD (off + j) undef)
theorem opnf_fld {fl : Field} {off : Nat} {f1 : α → PV} {R1 : α → Prop} (hk : P.cellsOf fl.type = 1) (ho : fl.offset = off) (hf : ∀ a, flat (f1 a) = [f1 a]) (h1 : Opn enc P w fl.type 1 f1 R1) {n : Nat} {cs : List Value} {d : DataW H × List MemPlace}
    (h : DataW.trod enc P w 0 (fun _ => true) true n fl.type ((cs.drop fl.offset).take (P.cellsOf fl.type)) = some d) : ∃ a, R1 a ∧ DR w No (f1 a) (cs.getD off undef) := by
  rw [hk, ho] at h
  obtain ⟨e, a, q1, q2, q3⟩ := h1 _ _ _ h
  refine ⟨a, q1, ?_⟩
  rw [hf] at q3
  have q4 := q3 0 _ rfl
  have e2 : ((cs.drop off).take 1).getD 0 undef = cs.getD off undef := by
    rw [List.getD_eq_getElem?_getD, List.getD_eq_getElem?_getD, List.getElem?_take_of_lt (by decide), List.getElem?_drop, Nat.add_zero]
  rw [e2] at q4
  exact q4
theorem opnf_one {fl : Field} {off : Nat} {f1 : α → PV} {R1 : α → Prop} (hk : P.cellsOf fl.type = 1) (ho : fl.offset = off) (hf : ∀ a, flat (f1 a) = [f1 a]) (h1 : Opn enc P w fl.type 1 f1 R1) : OpnF enc P w [fl] off (fun a => [f1 a]) R1 := fun n cs h => by
  obtain ⟨d, hd⟩ := h 0 fl rfl
  obtain ⟨a, q1, q2⟩ := opnf_fld hk ho hf h1 hd
  refine ⟨a, q1, rfl, fun j y hy => ?_⟩
  cases j with
  | zero => cases hy; exact q2
  | succ j => simp at hy
theorem opnf_cons {fl : Field} {fs : List Field} {off : Nat} {f1 : α → PV} {R1 : α → Prop} {f2 : β → List PV} {R2 : β → Prop} (hk : P.cellsOf fl.type = 1) (ho : fl.offset = off) (hf : ∀ a, flat (f1 a) = [f1 a]) (h1 : Opn enc P w fl.type 1 f1 R1) (h2 : OpnF enc P w fs (off + 1) f2 R2) :
    OpnF enc P w (fl :: fs) off (fun p : α × β => f1 p.1 :: f2 p.2) (fun p => R1 p.1 ∧ R2 p.2) := fun n cs h => by
  obtain ⟨d, hd⟩ := h 0 fl rfl
  obtain ⟨a, q1, q2⟩ := opnf_fld hk ho hf h1 hd
  obtain ⟨b, q3, q4, q5⟩ := h2 n cs fun i g hg => h (i + 1) g (by simpa using hg)
  refine ⟨(a, b), ⟨q1, q3⟩, by simp [q4], fun j y hy => ?_⟩
  cases j with
  | zero => cases hy; exact q2
  | succ j =>
    have := q5 j y (by simpa using hy)
    rwa [show off + 1 + j = off + (j + 1) by omega] at this
theorem opn_struct {t : TypeId} {fs : Array Field} {fl : List Field} {n : Nat} {f : α → List PV} {R : α → Prop} (ht : P.underlying t = some (.struct fs)) (hfs : fs.toList = fl) (hc : P.cellsOf t = n) (hn : fl.length = n) (h : OpnF enc P w fl 0 f R) : Opn enc P w t n (fun a => .agg (f a)) R := fun fuel cs d hd => by
  obtain ⟨xs, m, _, _, h1, h2, h3⟩ := DataW.trod_struct ht hd
  subst hfs
  obtain ⟨a, q1, q2, q3⟩ := h m cs fun i g hg => by
    have hi : i < fs.size := by simpa using (List.getElem?_eq_some_iff.1 hg).1
    rw [h3 i g (by simpa using hg), List.getElem?_eq_getElem (by omega)]
    exact ⟨_, rfl⟩
  refine ⟨h1.trans hc, a, q1, q2.trans hn, fun j y hy => ?_⟩
  have := q3 j y hy
  rwa [Nat.zero_add] at this
/-- A struct, and a slice, as an argument. -/
theorem arg_struct {t : TypeId} {n : Nat} {fs : Array Field} {f : α → List PV} {R : α → Prop} {base : Nat} {v : Value} {d : DataW H} {ps : List MemPlace} (ht : P.underlying t = some (.struct fs)) (h : Opn enc P w t n (fun a => .agg (f a)) R) (hval : Value.okWide P w .any base t v)
    (hd : DataW.Trod enc P w 0 (fun _ => true) true t v d ps) : ∃ a, R a ∧ DR w No (.agg (f a)) v := by
  obtain ⟨cs, rfl, _⟩ := okWide_struct ht hval
  obtain ⟨fuel, hf⟩ := hd
  obtain ⟨h1, a, h2, h3, h4⟩ := h _ _ _ hf
  refine ⟨a, h2, .agg _ _ ?_ fun i x hx => ?_⟩
  · have : (flat (.agg (f a))).length = (f a).length := rfl
    simp only [Value.cells] at h1
    rw [← this, h3, ← h1, Array.length_toList]
  · have := h4 i x hx
    simp only [Value.cells] at this
    rwa [List.getD_eq_getElem?_getD, Array.getElem?_toList, ← Array.getD_eq_getD_getElem?] at this
theorem arg_slice {t e : TypeId} {f : α → PV} {R : List α → Prop} {base : Nat} {v : Value} {d : DataW H} {ps : List MemPlace} (ht : P.underlying t = some (.slice e)) (h : Opn enc P w t 1 (fun l : List α => .far (l.map f)) R) (hval : Value.okWide P w .any base t v)
    (hd : DataW.Trod enc P w 0 (fun _ => true) true t v d ps) : ∃ l, R l ∧ DR w No (.far (l.map f)) v := by
  obtain ⟨a, len, cap, rfl⟩ := okWide_slice ht hval
  obtain ⟨fuel, hf⟩ := hd
  obtain ⟨h1, l, h2, h3, h4⟩ := h _ _ _ hf
  exact ⟨l, h2, h4 0 _ rfl⟩
end
end Go.Pv
