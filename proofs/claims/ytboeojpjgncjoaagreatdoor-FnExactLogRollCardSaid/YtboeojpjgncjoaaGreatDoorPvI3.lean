/- The texts of this claim, part 3: a small logic of plain values for the model's runs, what it says of the functions, in plain values. -/
import Derived.Lib.Strings
import Derived.Lib.Walk
import Derived.Lib.Builder
import Derived.Lib.UnsafeStr
import Derived.WalkKit
import Derived.Laws.Externs
import Derived.Shelf.RegionOpenPlain
import Derived.Test.YtboeojpjgncjoaaGreatDoorPvI0
import Derived.Test.YtboeojpjgncjoaaGreatDoorPvI1
import Derived.Test.YtboeojpjgncjoaaGreatDoorPvI2
/- strings.Builder: what its functions do, in plain values. -/
namespace Go.Pv
open Go.Proofs Go.Mth Go.RowKit
set_option linter.unusedSimpArgs false
set_option linter.unusedVariables false
set_option maxHeartbeats 4000000
theorem bl_size : (Tryz.prog.info? 129).map (·.size) = some 2 := by kernel_rfl
theorem bl_lies : liesAt Tryz.prog Tryz.prog.depth 129 (2 / Tryz.prog.cellsOf 129) 0 129 1 = true := by kernel_rfl
set_option maxRecDepth 100000 in
theorem bl_fresh (b : Nat) (w : World) (h0 : w.cell? ⟨b, 0, none⟩ = some (.pointer none)) (hsh : w.shape? b = some (129, 2)) (hfz : w.frozen? ⟨b, 0, none⟩ = false) :
    Calls Tryz.prog 151 #[.pointer (some ⟨b, 0, none⟩)] w fun e w' => e = .returned (.tuple #[]) ∧ w' = w.setCell ⟨b, 0, none⟩ (.pointer (some ⟨b, 0, none⟩)) := by
  obtain ⟨j, hj, hjs⟩ := Option.map_eq_some_iff.1 bl_size
  go_enter Tryz.func151, Tryz.ntmps151
  go_wp2
  rw [Lib.run_to_unsafe w ⟨b, 0, none⟩ Tryz.underlying127 Tryz.underlying179 hj (by rw [hjs]; decide) hsh (Nat.zero_lt_succ 1)]
  simp only [Result.andThen]
  rw [Oper.upon_value]
  go_wp2
  rw [run_callFunc_extern Tryz.func175 (by kernel_rfl) (by kernel_rfl) (by kernel_rfl) (e := Extern.AbiNoEscape.same) (by kernel_rfl)]
  rw [Lib.run_noEscape]
  simp only [Result.andThen]
  rw [Oper.upon_value]
  go_wp2
  rw [Lib.run_from_unsafe w ⟨b, 0, none⟩ Tryz.underlying179 Tryz.underlying127 hj hsh bl_lies]
  simp only [Result.andThen]
  rw [Oper.upon_value]
  go_wp2
  go_end0
  exact ⟨rfl, rfl⟩
set_option maxRecDepth 100000 in
theorem bl_String (b g cap : Nat) (p : Value) (cur : Array Value) (fzb fz : Nat × Nat) (l : List UInt8) (w : World) (h0 : l ≠ []) (hbk : w.heap[b]? = some (.cells #[p, .slice (some ⟨g, 0, none⟩) l.length cap] 129 fzb)) (hg : w.heap[g]? = some (.cells cur 5 fz))
    (hc : l.length ≤ cap) (hcm : cap ≤ cur.size) (h63 : l.length ≤ 9223372036854775807) (hcell : ∀ (j : Nat) (x : UInt8), l[j]? = some x → cur[j]? = some (Value.int .u8 x.toNat)) :
    Calls Tryz.prog 116 #[.pointer (some ⟨b, 0, none⟩)] w fun e w' => e = .returned (.string ⟨l.toArray⟩) ∧ w' = w.drew.freeze ⟨g, 0, none⟩ l.length := by
  have hl0 : l.length ≠ 0 := by simpa using h0
  have c1 : w.drew.cell? ⟨b, 1, none⟩ = some (.slice (some ⟨g, 0, none⟩) l.length cap) := by
    have : w.drew.heap[b]? = some (.cells #[p, .slice (some ⟨g, 0, none⟩) l.length cap] 129 fzb) := hbk
    rw [Lib.cell_of_heap this]; rfl
  have hSD : (Builtin.unsafeSliceData_ #[81] 164 #[.slice (some ⟨g, 0, none⟩) l.length cap]).run Tryz.prog w.drew = .ok (.pointer (some ⟨g, 0, none⟩)) w.drew :=
    Lib.run_unsafeSliceData_row _ _ _ _ _ _ (by omega)
  have hUS : (Builtin.unsafeString_ #[164, 3] 9 #[.pointer (some ⟨g, 0, none⟩), .int .i64 l.length]).run Tryz.prog w.drew = .ok (.string ⟨l.toArray⟩) (w.drew.freeze ⟨g, 0, none⟩ l.length) := by
    refine Lib.run_unsafeString_row w.drew 164 3 9 5 Tryz.underlying164 (by kernel_rfl) g cur.size (by have hg' : w.drew.heap[g]? = some (.cells cur 5 fz) := hg; simp [World.shape?, hg']) l h0 (by omega) h63 ?_
    intro j x hx
    have hg' : w.drew.heap[g]? = some (.cells cur 5 fz) := hg
    have := hcell j x hx
    by_cases hj : j = 0
    · subst hj; simp [World.cell?, Addr.add, hg', this]
    · simp [World.cell?, Addr.add, hg', this, hj]
  have hm := mixed
  go_enter Tryz.func116, Tryz.ntmps116
  go_wp2
  go_region_o
  all_goals (go_wp2; go_ret; exact ⟨rfl, rfl⟩)
set_option maxRecDepth 100000 in
theorem bl_used (b : Nat) (w : World) (h0 : w.cell? ⟨b, 0, none⟩ = some (.pointer (some ⟨b, 0, none⟩))) :
    Calls Tryz.prog 151 #[.pointer (some ⟨b, 0, none⟩)] w fun e w' => e = .returned (.tuple #[]) ∧ w' = w := by
  obtain ⟨j, hj, _⟩ := Option.map_eq_some_iff.1 bl_size
  go_enter Tryz.func151, Tryz.ntmps151
  go_wp2
  rw [Lib.run_neq_ptr_same w _ Tryz.underlying127 hj]
  go_wp2
  go_end0
  exact ⟨rfl, rfl⟩
section
variable {w : World} {A : Bl} {Γ : Nat → Value} {hp : Hp}
theorem ref_val {b off q : Nat} {cs : List PV} {v : Value} (h : VR w A Γ hp (.ref b off) v) (hb : hget hp b = some (.box q cs)) : ∃ β, Γ b = .pointer (some ⟨β, 0, none⟩) ∧ v = .pointer (some ⟨β, off, none⟩) := by
  cases h with
  | data h => cases h
  | ref _ _ _ _ _ k => exact k q cs hb
theorem vr_nilp {v : Value} (h : VR w A Γ hp .nilp v) : v = .pointer none := by
  cases h with | data h => cases h; rfl
theorem row_val {g n : Nat} {sz : Sz} {xs : List PV} {v : Value} (h : VR w A Γ hp (.row g n) v) (hb : hget hp g = some (.row sz xs)) (hn : n = xs.length) : v = Γ g := by
  cases h with
  | data h => cases h
  | row _ _ _ _ _ k => exact (k sz xs hb).2 hn
theorem vs_one {vs : Array Value} (h : vs.size = 1) : vs = #[vs.getD 0 undef] := by
  apply Array.ext
  · simpa using h
  · intro i h1 h2
    obtain rfl : i = 0 := by omega
    simp [Array.getD, h1]
theorem box_cell {β : Nat} {c : Array Value} {q : TypeId} {fr : Nat × Nat} (h : w.heap[β]? = some (.cells c q fr)) {i : Nat} (hi : i < c.size) : w.cell? ⟨β, i, none⟩ = some (c.getD i undef) := by
  rw [Lib.cell_of_heap h, Array.getD_eq_getD_getElem?, Array.getElem?_eq_getElem hi]; rfl
end
theorem copy_ent : Ent Tryz.prog 151 := fun vs w => by
  simp [callFunc, Tryz.func151, show (Tryz.f151).name ≠ "runtime.NumGoroutine" by decide, show (Tryz.f151).body = some _ from rfl]
theorem str_ent : Ent Tryz.prog 116 := fun vs w => by
  simp [callFunc, Tryz.func116, show (Tryz.f116).name ≠ "runtime.NumGoroutine" by decide, show (Tryz.f116).body = some _ from rfl]
theorem copy_used (ha : Hp) (x : PV) (h : hget ha 0 = some (.box 129 [.ref 0 0, x])) : Fn Tryz.prog 151 [.ref 0 0] ha (.tup []) ha := by
  refine ⟨copy_ent, fun w V Γ vs hV hs hargs hhr hd => ?_⟩
  have h0 := hhr 0
  unfold HR at h0
  rw [h] at h0
  obtain ⟨β, c, fr, e1, e2, e3, e4, e5⟩ := h0
  obtain ⟨β', g1, g2⟩ := ref_val (hargs 0 _ rfl) h
  obtain ⟨β2, g3, g4⟩ := ref_val (e5 0 _ rfl) h
  rw [e1] at g1 g3
  cases g1
  cases g3
  rw [vs_one hs, g2]
  have e3' : c.size = 2 := e3
  refine (bl_used β w (by rw [box_cell e2 (by omega), g4])).mono ?_
  rintro e w' ⟨rfl, rfl⟩
  exact ⟨_, Γ, rfl, Kp.refl _ _, .tup [] #[] rfl (fun i x h => by simp at h), hhr, hd, fun b hb => .inr hb, fun _ _ _ _ => rfl⟩
theorem copy_fresh : Fn Tryz.prog 151 [.ref 0 0] [(0, .box 129 [.nilp, .nils])] (.tup []) [(0, .box 129 [.ref 0 0, .nils])] := by
  refine ⟨copy_ent, fun w V Γ vs hV hs hargs hhr hd => ?_⟩
  obtain ⟨β, c, fr, e1, e2, e3, e4, e5⟩ := hhr 0
  obtain ⟨β', g1, g2⟩ := ref_val (hargs 0 _ rfl) rfl
  rw [e1] at g1
  cases g1
  have c0 : c.getD 0 undef = .pointer none := vr_nilp (e5 0 _ rfl)
  have c1 : c.getD 1 undef = .slice none 0 0 := vr_nils (e5 1 _ rfl)
  have e3' : c.size = 2 := e3
  rw [vs_one hs, g2]
  refine (bl_fresh β w (by rw [box_cell e2 (by omega), c0]) (by simp [World.shape?, e2, e3']) (by
    have := e4 0 (Nat.le_refl _) (by omega)
    simp only [World.frozen?, e2]
    simpa using this)).mono ?_
  rintro e w' ⟨rfl, rfl⟩
  have hw : (w.setCell ⟨β, 0, none⟩ (.pointer (some ⟨β, 0, none⟩))).heap[β]? = some (.cells (c.setIfInBounds 0 (.pointer (some ⟨β, 0, none⟩))) 129 fr) := by
    simp [World.setCell, Array.getElem?_modify, e2]
  have ho : ∀ b, b ≠ β → (w.setCell ⟨β, 0, none⟩ (.pointer (some ⟨β, 0, none⟩))).heap[b]? = w.heap[b]? := fun b hb => by
    simp [World.setCell, Array.getElem?_modify, Ne.symm hb]
  have lv : ∀ k, live [(0, HC.box 129 [.ref 0 0, .nils])] k → k = 0 := fun k hk => by
    unfold live at hk
    by_cases e : k = 0
    · exact e
    · simp [hget, e] at hk
  have l0 : live [(0, HC.box 129 [.nilp, .nils])] 0 := trivial
  refine ⟨_, Γ, rfl, ⟨rfl, rfl, rfl, by simp [World.setCell], fun b hb hM => ho b fun e => hM ⟨0, l0, by rw [e1, e]; rfl⟩⟩, .tup [] #[] rfl (fun i x h => by simp at h), fun k => ?_, fun k k' b l l' _ _ => (lv k l).trans (lv k' l').symm, fun b ⟨k, l, hk⟩ => .inr ⟨0, l0, by rw [← lv k l]; exact hk⟩, fun _ _ _ _ => rfl⟩
  unfold HR
  by_cases e : k = 0
  · subst e
    refine ⟨β, _, fr, e1, hw, by simp [e3'], by simpa using e4, fun j y hy => ?_⟩
    match j, hy with
    | 0, hy =>
      cases hy
      have : (c.setIfInBounds 0 (Value.pointer (some ⟨β, 0, none⟩))).getD 0 undef = .pointer (some ⟨β, 0, none⟩) := by
        simp [Array.getD_eq_getD_getElem?, e3']
      rw [this]
      exact .ref 0 0 _ rfl (by simp [hget]) fun q cs _ => ⟨β, e1, rfl⟩
    | 1, hy =>
      cases hy
      have : (c.setIfInBounds 0 (Value.pointer (some ⟨β, 0, none⟩))).getD 1 undef = c.getD 1 undef := by
        simp [Array.getD_eq_getD_getElem?, e3']
      rw [this, c1]
      exact .data .nils
    | j + 2, hy => simp at hy
  · simp [hget, e]
/-- A builder that holds bytes, as it is handed over. -/
def blH (t : ByteArray) : Hp := [(0, .box 129 [.ref 0 0, .row 1 t.size]), (1, .row ⟨1, 5⟩ ((bytesOf t).map (.int .u8)))]
theorem Builder_Write0 (s : ByteArray) (h0 : ¬ s.size = 0) (hs : s.size ≤ 1000000000000) : FnE Tryz.prog 114 [.ref 0 0, .str s] [(0, .box 129 [.nilp, .nils])] (fun r m => r = .tup [.int .i64 s.size, .raw .nilIface] ∧ m = [(0, .box 129 [.ref 0 0, .row 64 s.size]), (64, .row ⟨1, 5⟩ ((bytesOf s).map (.int .u8)))]) := by
  refine fn_e tok (n := 19) (rs := [.tmp 4, .tmp 5]) Tryz.func114 (by decide) rfl rfl rfl rfl (low_of rfl) ?_
  refine Wr.go ?_
  repeat' ((first | (have ee := True.intro; refine Wr.mk ?_) | ((first | refine br_go ?_ ?_ | refine pick_go ?_ ?_) <;> intro ee f <;> (try simp only [BB] at f) <;> (try simp only [numOk, verOk] at f)) | (have ee := True.intro; first | refine call_hx [0] [] (copy_fresh) (by decide) rfl rfl ?_)) <;> (try simp (maxSteps := 1000000) (disch := first | omega | (simp only [LN, numOk, verOk, bytesOf_length] <;> omega) | exact Ck.mk rfl) only [ee, VC, T, Nat.reduceMul, Nat.reduceAdd, Nat.reduceSub, Nat.reduceLT, Nat.reduceEqDiff, Nat.reduceLeDiff, Nat.reduceBEq, reduceCtorEq, Int.reduceToNat, ↓reduceIte, bytesOf_length]) <;> (try clear ee))
  exact fin_t [some 960] (⟨rfl, rfl⟩) rfl (by simp [RV, RV2, RVl, RV1, tau, tget, hget, data1, oneOf]) (by simp [RH, RVl, RV1, tau, hget, data1]) (by simp [Taus, hget])
theorem Builder_Write (t s : ByteArray) (ht : t.size ≤ 1000000000000) (hs : s.size ≤ 1000000000000) : FnE Tryz.prog 114 [.ref 0 0, .str s] (blH t) (fun r m => r = .tup [.int .i64 s.size, .raw .nilIface] ∧ m = blH (t ++ s)) := by
  unfold blH
  refine fn_e tok (n := 19) (rs := [.tmp 4, .tmp 5]) Tryz.func114 (by decide) rfl rfl rfl rfl (low_of rfl) ?_
  refine Wr.go ?_
  repeat' ((first | (have ee := True.intro; refine Wr.mk ?_) | ((first | refine br_go ?_ ?_ | refine pick_go ?_ ?_) <;> intro ee f <;> (try simp only [BB] at f) <;> (try simp only [numOk, verOk] at f)) | (have ee := True.intro; first | refine call_hx [0, 1] [] (copy_used _ _ rfl) (by decide) rfl rfl ?_)) <;> (try simp (maxSteps := 1000000) (disch := first | omega | (simp only [LN, numOk, verOk, bytesOf_length] <;> omega) | exact Ck.mk rfl) only [ee, VC, T, Nat.reduceMul, Nat.reduceAdd, Nat.reduceSub, Nat.reduceLT, Nat.reduceEqDiff, Nat.reduceLeDiff, Nat.reduceBEq, reduceCtorEq, Int.reduceToNat, ↓reduceIte, bytesOf_length]) <;> (try clear ee))
  exact fin_t [] (⟨rfl, rfl⟩) rfl (by simp [RV, RV2, RVl, RV1, tau, tget, hget, data1, oneOf, bytesOf_append]) (by simp [RH, RVl, RV1, tau, hget, data1, bytesOf_append]) (by simp [Taus, hget, bytesOf_append])
/-- What stands in a builder is told as a text; its memory is read only from then on. -/
theorem Builder_String (t : ByteArray) (h0 : ¬ t.size = 0) (h1 : t.size ≤ 1000000000000) : Fn Tryz.prog 116 [.ref 0 0] (blH t) (.str t) [(0, .box 129 [.ref 0 0, .far ((bytesOf t).map (.int .u8))])] := by
  refine ⟨str_ent, fun w V Γ vs hV hs hargs hhr hd => ?_⟩
  obtain ⟨β, c, fr, e1, e2, e3, e4, e5⟩ := hhr 0
  obtain ⟨_, hrow⟩ := hhr 1
  obtain ⟨β', g1, g2⟩ := ref_val (hargs 0 _ rfl) rfl
  rw [e1] at g1
  cases g1
  have e3' : c.size = 2 := e3
  have hlen : ((bytesOf t).map (PV.int .u8)).length = t.size := by rw [List.length_map, bytesOf_length]
  rcases hrow with ⟨hn, _⟩ | ⟨g, o, cap, cur, e, frg, q1, q2, q3, q4, q5, q6, q7, q8⟩
  · exfalso; rw [hn] at hlen; exact h0 hlen.symm
  obtain ⟨rfl, rfl⟩ : e = 5 ∧ o = 0 := by
    rcases q3 with q3 | q3
    · exact absurd q3 (by decide)
    · exact q3
  rw [hlen] at q1 q4
  have hls : t.data.toList.length = t.size := Array.length_toList
  obtain ⟨β2, g3, g4⟩ := ref_val (e5 0 _ rfl) rfl
  rw [e1] at g3
  cases g3
  have g5 : c.getD 1 undef = .slice (some ⟨g, 0, none⟩) t.size cap := by
    rw [row_val (e5 1 _ rfl) rfl hlen.symm, q1]
  have hc : c = #[.pointer (some ⟨β, 0, none⟩), .slice (some ⟨g, 0, none⟩) t.size cap] := by
    apply Array.ext
    · exact e3'
    · intro i hi _
      have hi2 : i < 2 := by omega
      have hx : c.getD i undef = c[i] := by simp [Array.getD, hi]
      obtain rfl | rfl : i = 0 ∨ i = 1 := by omega
      · rw [← hx, g4]; rfl
      · rw [← hx, g5]; rfl
  subst hc
  have hgβ : g ≠ β := fun e => by
    have := hd 1 0 β (by trivial) (by trivial) (by rw [q1, e]; rfl) (by rw [e1]; rfl)
    cases this
  have hby : ∀ (j : Nat) (x : UInt8), t.data.toList[j]? = some x → (bytesOf t)[j]? = some (x.toNat : Int) := fun j x hx => by
    unfold bytesOf
    rw [List.getElem?_map, hx]; rfl
  have hcell : ∀ (j : Nat) (x : UInt8), t.data.toList[j]? = some x → cur[j]? = some (Value.int .u8 x.toNat) := fun j x hx => by
    have hj : j < t.size := by rw [← hls]; exact (List.getElem?_eq_some_iff.1 hx).1
    have h8 := q8 j (.int .u8 x.toNat) 0 (.int .u8 x.toNat) (by rw [List.getElem?_map, hby j x hx]; rfl) rfl
    have h9 : (0 : Nat) + j * 1 + 0 = j := by omega
    change DR w _ _ (cur.getD (0 + j * 1 + 0) undef) at h8
    rw [h9] at h8
    have hjc : j < cur.size := by have : 0 + cap * 1 ≤ cur.size := q5; omega
    rw [Array.getElem?_eq_getElem hjc]
    have h10 : cur.getD j undef = cur[j] := by simp [Array.getD, hjc]
    rw [← h10]
    generalize cur.getD j undef = u at h8
    cases h8; rfl
  have q5' : 0 + cap * 1 ≤ cur.size := q5
  rw [vs_one hs, g2]
  have hne : t.data.toList ≠ [] := fun e => h0 (by rw [← hls, e]; rfl)
  refine (bl_String β g cap (.pointer (some ⟨β, 0, none⟩)) cur fr frg t.data.toList w hne (by rw [hls]; exact e2) q2 (by omega) (by omega) (by omega) hcell).mono ?_
  rintro e w' ⟨rfl, rfl⟩
  have hw : ∀ b, b ≠ g → (w.drew.freeze ⟨g, 0, none⟩ t.data.toList.length).heap[b]? = w.heap[b]? := fun b hb => by
    unfold World.freeze
    rw [if_neg (by omega)]
    show (w.heap.modify g _)[b]? = _
    rw [Array.getElem?_modify, if_neg (Ne.symm hb)]
  obtain ⟨fr', hg'⟩ : ∃ fr', (w.drew.freeze ⟨g, 0, none⟩ t.data.toList.length).heap[g]? = some (.cells cur 5 fr') := by
    unfold World.freeze
    rw [if_neg (by omega)]
    refine ⟨if (frg.1 == frg.2) = true then (0, 0 + t.data.toList.length) else (min frg.1 0, max frg.2 (0 + t.data.toList.length)), ?_⟩
    show (w.heap.modify g _)[g]? = _
    rw [Array.getElem?_modify, if_pos rfl, q2]; rfl
  have hsz : (w.drew.freeze ⟨g, 0, none⟩ t.data.toList.length).heap.size = w.heap.size := by
    unfold World.freeze
    rw [if_neg (by omega)]
    show (w.heap.modify g _).size = _
    rw [Array.size_modify]
  have l1 : live (blH t) 1 := trivial
  have l0 : live (blH t) 0 := trivial
  have lv : ∀ k, live [(0, HC.box 129 [.ref 0 0, .far ((bytesOf t).map (.int .u8))])] k → k = 0 := fun k hk => by
    unfold live at hk
    by_cases e : k = 0
    · exact e
    · simp [hget, e] at hk
  have hVg : ¬ V g := fun h => (hV.1 g h).2 ⟨1, l1, by rw [q1]; rfl⟩
  refine ⟨_, Γ, rfl, ⟨?_, ?_, ?_, Nat.le_of_eq hsz.symm, fun b hb hM => hw b fun e => hM ⟨1, l1, by rw [q1, e]; rfl⟩⟩, .data (.str _), fun k => ?_, fun k k' b l l' _ _ => (lv k l).trans (lv k' l').symm, fun b ⟨k, l, hk⟩ => .inr ⟨0, l0, by rw [← lv k l]; exact hk⟩, fun _ _ _ _ => rfl⟩
  · unfold World.freeze; rw [if_neg (by omega)]; rfl
  · unfold World.freeze; rw [if_neg (by omega)]; rfl
  · unfold World.freeze; rw [if_neg (by omega)]; rfl
  · unfold HR
    by_cases e : k = 0
    · subst e
      refine ⟨β, _, fr, e1, (hw β (Ne.symm hgβ)).trans e2, rfl, e4, fun j y hy => ?_⟩
      match j, hy with
      | 0, hy => cases hy; exact .ref 0 0 _ rfl (by simp [hget]) fun q cs _ => ⟨β, e1, rfl⟩
      | 1, hy =>
        cases hy
        have key := DR.far (w := w.drew.freeze ⟨g, 0, none⟩ t.data.toList.length) (A := Av V Γ [(0, HC.box 129 [.ref 0 0, .far ((bytesOf t).map (.int .u8))])]) ((bytesOf t).map (.int .u8)) g 0 cap 1 cur 5 fr' (fun h => by
          rcases h with h | ⟨k, l, hk⟩
          · exact hVg h
          · rw [lv k l, e1] at hk
            cases hk; exact hgβ rfl) hg' (by rw [hlen]; exact q4) (fun i x hx => by
              obtain ⟨n, _, rfl⟩ := Option.map_eq_some_iff.1 (List.getElem?_map ▸ hx); rfl)
          (fun i x j y hx hy => by
            have hi : i < t.size := by rw [← hlen]; exact (List.getElem?_eq_some_iff.1 hx).1
            obtain ⟨n, _, rfl⟩ := Option.map_eq_some_iff.1 (List.getElem?_map ▸ hx)
            have hj : j < 1 := (List.getElem?_eq_some_iff.1 hy).1
            omega)
          (fun i x j y hx hy => by
            have h8 := q8 i x j y hx hy
            obtain ⟨n, _, rfl⟩ := Option.map_eq_some_iff.1 (List.getElem?_map ▸ hx)
            obtain rfl : j = 0 := by have hj : j < 1 := (List.getElem?_eq_some_iff.1 hy).1; omega
            cases hy
            change DR w _ _ (cur.getD (0 + i * 1 + 0) undef) at h8
            generalize cur.getD (0 + i * 1 + 0) undef = u at h8 ⊢
            cases h8; exact .int _ _)
        rw [hlen] at key
        exact .data key
      | j + 2, hy => simp at hy
    · simp [hget, e]
end Go.Pv

/- What functions of the program and of the reference do, in plain values. -/
namespace Go.Pv
open Go.Proofs Go.Mth
set_option linter.unusedSimpArgs false
set_option linter.unusedVariables false
set_option maxHeartbeats 4000000
set_option maxRecDepth 4000

/-! ### lists of places, feet, sealed files -/
theorem upT_size0 {a b : Int} (h : ¬ (upT a b).size = 0) : b ≤ a := Decidable.byContradiction fun q => h (by rw [upT_no fun x => q x.1]; rfl)
theorem impl_PlacesText (ps : List (Int × Int)) (hl : ps.length ≤ 1000000000) (hp : ∀ p ∈ ps, i64 p.1 ∧ i64 p.2) : Fn Tryz.prog 91 [.far (ps.map plP)] [] (.str (placesT ps)) [] := by
  have b1 := varT_le ps.length
  have b2 := varT_pos ps.length (by omega) (by omega)
  refine fn_x tok (n := 44) (rs := [.tmp 2]) Tryz.func91 (by decide) rfl rfl rfl rfl ?_
  refine Wr.go ?_
  repeat' ((first | (have ee := True.intro; refine Wr.mk ?_) | ((first | refine br_go ?_ ?_ | refine pick_go ?_ ?_) <;> intro ee f <;> (try simp only [BB] at f) <;> (try simp only [numOk, verOk] at f)) | (have ee := True.intro; first | refine call_x (impl_VarText _) rfl ⟨rfl⟩ ?_ | (refine call_h [256] [] (Builder_Write0 _ (by omega) (by omega)) (by decide) rfl rfl ?_; rintro _ _ ⟨rfl, rfl⟩))) <;> (try simp (maxSteps := 1000000) (disch := first | omega | (simp only [LN, numOk, verOk, rfP, rvP, rhP, frP, blH, bytesOf_length] <;> omega) | exact Ck.mk rfl) only [ee, VC, T, Nat.reduceMul, Nat.reduceAdd, Nat.reduceSub, Nat.reduceLT, Nat.reduceEqDiff, Nat.reduceLeDiff, Nat.reduceBEq, reduceCtorEq, Int.reduceToNat, ↓reduceIte, rfP, rvP, rhP, frP, blH, bytesOf_length]) <;> (try clear ee))
  refine lp_go (fun x : Nat × ByteArray × Int × Int => ⟨44, [(3, .ref 256 0), (4, .ref 320 0), (15, .far (ps.map plP)), (16, .int .i64 ps.length), (17, .int .i64 x.1)], [(256, .box 129 [.ref 256 0, .row 896 x.2.1.size]), (896, .row ⟨1, 5⟩ ((bytesOf x.2.1).map (.int .u8))), (320, .box 122 [.int .i64 x.2.2.1, .int .i64 x.2.2.2])]⟩) (fun x => x.1 ≤ ps.length ∧ (0 < x.2.1.size ∧ x.2.1.size ≤ 5 + 10 * x.1) ∧ (0 ≤ x.2.2.1 ∧ x.2.2.1 ≤ 9223372036854775807) ∧ (0 ≤ x.2.2.2 ∧ x.2.2.2 ≤ 9223372036854775807) ∧ placesT ps = plGo x.2.1 x.2.2.1 x.2.2.2 (ps.drop x.1)) (fun x => ps.length - x.1) (0, varT ps.length, 0, 0) ?_ ?_ ?_
  · (simp (disch := first | omega | (simp only [LN, numOk, verOk] <;> omega) | exact Ck.mk rfl) only [SB, EQ, Nat.reduceMul, Nat.reduceAdd, Nat.reduceSub, Nat.reduceLT, Nat.reduceEqDiff, Nat.reduceLeDiff, Nat.reduceBEq, reduceCtorEq, Int.reduceToNat, ↓reduceIte]; try omega)
  · exact ⟨Nat.zero_le _, ⟨b2, by simp only; omega⟩, by simp, by simp, rfl⟩
  · rintro ⟨i, o, lc, la⟩ ⟨h1, h2, h3, h4, h5⟩ N hN
    simp only at h1 h2 h3 h4 h5
    have hs := plGo_step ps i
    have hm : i < ps.length → i64 (ps.getD i default).1 ∧ i64 (ps.getD i default).2 := fun h => hp _ (getD_mem _ _ h)
    have s1 := stepT_le (ps.getD i default).1 lc
    have s2 := stepT_le (ps.getD i default).2 la
    have hg : i < ps.length → (ps.map plP).getD i .junk = .agg [.int .i64 (ps.getD i default).1, .int .i64 (ps.getD i default).2] := fun h => by
      rw [List.getD_eq_getElem?_getD, List.getElem?_map, List.getElem?_eq_getElem h, List.getD_eq_getElem?_getD, List.getElem?_eq_getElem h]; rfl
    refine Wr.go ?_
    repeat' ((first | (have ee := True.intro; refine Wr.mk ?_) | ((first | refine br_go ?_ ?_ | refine pick_go ?_ ?_) <;> intro ee f <;> (try simp only [BB] at f) <;> (try simp only [numOk, verOk] at f)) | (have ee := True.intro; first | refine dr_go mixed (id := 7) [([], [6], []), ([0], [21], []), ([], [4], []), ([2], [23], []), ([0, 1, 2, 3], [22, 24], []), ([], [6], []), ([5], [26], []), ([], [4], []), ([7], [28], []), ([0, 1, 2, 3, 4, 5, 6, 7, 8], [27, 29], []), ([0, 1, 2, 3, 4, 5, 6, 7, 8, 9], [25], []), ([0, 1, 2, 3, 4, 5, 6, 7, 8, 9, 10], [30], [])] rfl rfl rfl ?_ | refine call_x (impl_above _ _ (hm (by omega)).1.1 (hm (by omega)).1.2 (by omega) h3.2) rfl ⟨rfl⟩ ?_ | refine call_x (impl_above _ _ (hm (by omega)).2.1 (hm (by omega)).2.2 (by omega) h4.2) rfl ⟨rfl⟩ ?_ | (refine call_h [256, 896] [] (Builder_Write o _ (by omega) (by rw [ByteArray.size_append]; omega)) (by decide) rfl rfl ?_; rintro _ _ ⟨rfl, rfl⟩) | refine call_hx [256, 896] [] (Builder_String o (by omega) (by omega)) (by decide) rfl rfl ?_)) <;> (try simp (maxSteps := 1000000) (disch := first | omega | (simp only [LN, numOk, verOk, rfP, rvP, rhP, frP, blH, bytesOf_length, hg] <;> omega) | exact Ck.mk rfl) only [ee, VC, T, Nat.reduceMul, Nat.reduceAdd, Nat.reduceSub, Nat.reduceLT, Nat.reduceEqDiff, Nat.reduceLeDiff, Nat.reduceBEq, reduceCtorEq, Int.reduceToNat, ↓reduceIte, rfP, rvP, rhP, frP, blH, bytesOf_length, hg]) <;> (try clear ee))
    · rw [h5, hs (by omega), if_pos (.inl f)]
    · rw [h5, hs (by omega), if_pos (.inr f)]
    · have u1 := upT_size0 (a := (ps.getD i default).1) (b := lc) (by assumption)
      have u2 := upT_size0 f
      have m := hm (by omega)
      unfold i64 at m
      refine hN (i + 1, o ++ upT (ps.getD i default).1 lc ++ upT (ps.getD i default).2 la, (ps.getD i default).1, (ps.getD i default).2) _ ⟨by simp only; omega, ⟨by simp only [ByteArray.size_append]; omega, by simp only [ByteArray.size_append]; omega⟩, ⟨Int.le_trans h3.1 u1, m.1.2⟩, ⟨Int.le_trans h4.1 u2, m.2.2⟩, ?_⟩ (by simp only; omega) ?_
      · rw [h5, hs (by omega), if_neg (by rintro (q | q) <;> simp_all)]
      · (simp (disch := first | omega | (simp only [LN, numOk, verOk] <;> omega) | exact Ck.mk rfl) only [SB, EQ, Nat.reduceMul, Nat.reduceAdd, Nat.reduceSub, Nat.reduceLT, Nat.reduceEqDiff, Nat.reduceLeDiff, Nat.reduceBEq, reduceCtorEq, Int.reduceToNat, ↓reduceIte]; try omega)
        simp only [ByteArray.append_assoc, ByteArray.size_append, Nat.add_assoc, and_self]
    · rw [h5, List.drop_eq_nil_of_le (by omega)]; rfl
theorem plc_mem (s : Int) (os : List Int) : ∀ (l : List Int) (i : Nat), (∀ x ∈ l, x ∈ os) → i + l.length ≤ os.length → ∀ p ∈ plc (fun a b => (a, b)) s l i, (0 ≤ p.1 ∧ p.1 < os.length) ∧ p.2 ∈ os
  | [], i, _, _, p, hp => by simp [plc] at hp
  | x :: l, i, hm, hi, p, hp => by
    rw [List.length_cons] at hi
    have ih := plc_mem s os l (i + 1) (fun y hy => hm y (List.mem_cons_of_mem _ hy)) (by omega) p
    unfold plc at hp
    split at hp
    · rcases List.mem_cons.1 hp with rfl | hp
      · exact ⟨⟨by simp only; omega, by simp only; omega⟩, hm x List.mem_cons_self⟩
      · exact ih hp
    · exact ih hp
theorem placesP_mem (s : Int) (os : List Int) (p : Int × Int) (hp : p ∈ placesP s os) : (0 ≤ p.1 ∧ p.1 < os.length) ∧ p.2 ∈ os := by
  unfold placesP placesOf at hp
  split at hp
  · simp at hp
  · exact plc_mem s os os 0 (fun x h => h) (by omega) p hp
theorem trail_20 {a b c d : Int} (h : ¬ (trailT a b c d).size = 0) : (trailT a b c d).size = 20 := by
  obtain ⟨h1, h2, h3, h4, _⟩ := trailT_size a b c d h
  have k1 := fixT4_full a h1
  have k2 := fixT4_full b h2
  have k3 := fixT4_full c h3
  have k4 := fixT4_full d h4
  exact (trailT_pos a b c d k1.2 k2.2 k3.2 k4.2).2
theorem impl_FootText (v s b l : Int) (os : List Int) (e : Int) (hl : os.length ≤ 1000000000) (ho : ∀ o ∈ os, i64 o) (he : i64 e) : Fn Tryz.prog 42 [.agg [.int .i64 v, .int .i64 s, .int .i64 b, .int .i64 l], .far (os.map (.int .i64)), .int .i64 e] [] (.str (footT v s b l os e)) [] := by
  have hp : ∀ p ∈ placesP s os, i64 p.1 ∧ i64 p.2 := fun p h => by
    have := placesP_mem s os p h
    exact ⟨⟨by omega, by omega⟩, ho _ this.2⟩
  have hpl : (placesP s os).length ≤ os.length := placesOf_le _ _ _
  have t1 := endMark_le v (b + os.length)
  have t2 := placesT_le (placesP s os)
  have t3 := @trail_20 e os.length s 0
  have t5 := trailT_le e os.length s (sumOf (endMark v (b + os.length) ++ placesT (placesP s os) ++ (trailT e os.length s 0).extract 0 12))
  unfold i64 at he
  generalize hq : footT v s b l os e = q
  by_cases hk : headOk v s b l
  · have hH := impl_HeadOk v s b l
    rw [decide_eq_true hk] at hH
    obtain ⟨_, ⟨hs1, hs2⟩, ⟨hb0, hb1⟩, _⟩ := id hk
    have hm : ∀ z < 9223372036854775808, ∀ x ∈ [e, (os.length : Int), s, z], x < 9223372036854775808 := fun z hz x hx => by
      simp only [List.mem_cons, List.not_mem_nil, or_false] at hx
      omega
    unfold footT at hq
    rw [if_pos hk] at hq
    refine fn_x tok (n := 61) (rs := [.tmp 6]) Tryz.func42 (by decide) rfl rfl rfl rfl ?_
    refine Wr.go ?_
    repeat' ((first | (have ee := True.intro; refine Wr.mk ?_) | ((first | refine br_go ?_ ?_ | refine pick_go ?_ ?_) <;> intro ee f <;> (try simp only [BB] at f) <;> (try simp only [numOk, verOk] at f)) | (have ee := True.intro; first | refine dr_go mixed (id := 3) [([], [3], []), ([0], [14], []), ([], [3], []), ([2], [16], []), ([], [1], []), ([4], [18], []), ([2, 3, 4, 5], [17, 19], []), ([0, 1, 2, 3, 4, 5, 6], [15, 20], []), ([], [3], []), ([8], [22], []), ([], [1], []), ([0, 1, 2, 3, 4, 5, 6, 7, 8, 9, 10], [23, 24], []), ([0, 1, 2, 3, 4, 5, 6, 7, 8, 9, 10, 11], [25], []), ([0, 1, 2, 3, 4, 5, 6, 7, 8, 9, 10, 11, 12], [21], []), ([0, 1, 2, 3, 4, 5, 6, 7, 8, 9, 10, 11, 12, 13], [26], [])] rfl rfl rfl ?_ | refine call_x (hH) rfl ⟨rfl⟩ ?_ | refine call_x (impl_EndMark _ _) rfl ⟨rfl⟩ ?_ | refine call_x (impl_PlacesOf2 _ _ (by omega) (by omega)) rfl ⟨rfl⟩ ?_ | refine call_x (impl_PlacesText _ (by omega) hp) rfl ⟨rfl⟩ ?_ | refine call_x (impl_TrailerText _ _ _ _ (hm _ (by decide))) rfl ⟨rfl⟩ ?_ | refine call_x (impl_TrailerText _ _ _ _ (hm _ (sumOf_lt _))) rfl ⟨rfl⟩ ?_ | refine call_x (impl_SumOf _ (by simp only [ByteArray.size_append, ByteArray.size_extract]; omega)) rfl ⟨rfl⟩ ?_)) <;> (try simp (maxSteps := 1000000) (disch := first | omega | (simp only [LN, numOk, verOk, rfP, rvP, rhP, frP, blH, bytesOf_length, ByteArray.size_extract] <;> omega) | exact Ck.mk rfl) only [ee, VC, T, Nat.reduceMul, Nat.reduceAdd, Nat.reduceSub, Nat.reduceLT, Nat.reduceEqDiff, Nat.reduceLeDiff, Nat.reduceBEq, reduceCtorEq, Int.reduceToNat, ↓reduceIte, rfP, rvP, rhP, frP, blH, bytesOf_length, ByteArray.size_extract]) <;> (try clear ee))
    all_goals (rw [← hq]; first | rw [if_pos (by omega)] | rw [if_neg (by omega)])
  · have hH := impl_HeadOk v s b l
    rw [decide_eq_false hk] at hH
    unfold footT at hq
    rw [if_neg hk] at hq
    subst hq
    refine fn_x tok (n := 61) (rs := [.tmp 6]) Tryz.func42 (by decide) rfl rfl rfl rfl ?_
    refine Wr.go ?_
    repeat' ((first | (have ee := True.intro; refine Wr.mk ?_) | ((first | refine br_go ?_ ?_ | refine pick_go ?_ ?_) <;> intro ee f <;> (try simp only [BB] at f) <;> (try simp only [numOk, verOk] at f)) | (have ee := True.intro; first | refine call_x (hH) rfl ⟨rfl⟩ ?_)) <;> (try simp (maxSteps := 1000000) (disch := first | omega | (simp only [LN, numOk, verOk, rfP, rvP, rhP, frP, blH, bytesOf_length] <;> omega) | exact Ck.mk rfl) only [ee, VC, T, Nat.reduceMul, Nat.reduceAdd, Nat.reduceSub, Nat.reduceLT, Nat.reduceEqDiff, Nat.reduceLeDiff, Nat.reduceBEq, reduceCtorEq, Int.reduceToNat, ↓reduceIte, rfP, rvP, rhP, frP, blH, bytesOf_length]) <;> (try clear ee))
theorem spec_FootText (v s b l : Int) (os : List Int) (e : Int) (hl : os.length ≤ 1000000000) (ho : ∀ o ∈ os, i64 o) (he : i64 e) : Fn Tryz.prog 29 [.agg [.int .i64 v, .int .i64 s, .int .i64 b, .int .i64 l], .far (os.map (.int .i64)), .int .i64 e] [] (.str (footT v s b l os e)) [] := by
  have hp : ∀ p ∈ placesP s os, i64 p.1 ∧ i64 p.2 := fun p h => by
    have := placesP_mem s os p h
    exact ⟨⟨by omega, by omega⟩, ho _ this.2⟩
  have hpl : (placesP s os).length ≤ os.length := placesOf_le _ _ _
  have t1 := endMark_le v (b + os.length)
  have t2 := placesT_le (placesP s os)
  have t3 := @trail_20 e os.length s 0
  have t5 := trailT_le e os.length s (sumOf (endMark v (b + os.length) ++ placesT (placesP s os) ++ (trailT e os.length s 0).extract 0 12))
  unfold i64 at he
  generalize hq : footT v s b l os e = q
  by_cases hk : headOk v s b l
  · have hH := spec_HeadOk v s b l
    rw [decide_eq_true hk] at hH
    obtain ⟨_, ⟨hs1, hs2⟩, ⟨hb0, hb1⟩, _⟩ := id hk
    have hm : ∀ z < 9223372036854775808, ∀ x ∈ [e, (os.length : Int), s, z], x < 9223372036854775808 := fun z hz x hx => by
      simp only [List.mem_cons, List.not_mem_nil, or_false] at hx
      omega
    unfold footT at hq
    rw [if_pos hk] at hq
    refine fn_x tok (n := 61) (rs := [.tmp 6]) Tryz.func29 (by decide) rfl rfl rfl rfl ?_
    refine Wr.go ?_
    repeat' ((first | (have ee := True.intro; refine Wr.mk ?_) | ((first | refine br_go ?_ ?_ | refine pick_go ?_ ?_) <;> intro ee f <;> (try simp only [BB] at f) <;> (try simp only [numOk, verOk] at f)) | (have ee := True.intro; first | refine dr_go mixed (id := 3) [([], [3], []), ([0], [14], []), ([], [3], []), ([2], [16], []), ([], [1], []), ([4], [18], []), ([2, 3, 4, 5], [17, 19], []), ([0, 1, 2, 3, 4, 5, 6], [15, 20], []), ([0, 1, 2, 3, 4, 5, 6, 7], [21], [])] rfl rfl rfl ?_ | refine call_x (hH) rfl ⟨rfl⟩ ?_ | refine call_x (spec_EndMark _ _) rfl ⟨rfl⟩ ?_ | refine call_x (spec_PlacesOf2 _ _ (by omega) (by omega)) rfl ⟨rfl⟩ ?_ | refine call_x (spec_PlacesText _ (by omega) hp) rfl ⟨rfl⟩ ?_ | refine call_x (spec_TrailerText _ _ _ _ (hm _ (by decide))) rfl ⟨rfl⟩ ?_ | refine call_x (spec_TrailerText _ _ _ _ (hm _ (sumOf_lt _))) rfl ⟨rfl⟩ ?_ | refine call_x (spec_SumOf _ (by simp only [ByteArray.size_append, ByteArray.size_extract]; omega)) rfl ⟨rfl⟩ ?_)) <;> (try simp (maxSteps := 1000000) (disch := first | omega | (simp only [LN, numOk, verOk, rfP, rvP, rhP, frP, blH, bytesOf_length, ByteArray.size_extract] <;> omega) | exact Ck.mk rfl) only [ee, VC, T, Nat.reduceMul, Nat.reduceAdd, Nat.reduceSub, Nat.reduceLT, Nat.reduceEqDiff, Nat.reduceLeDiff, Nat.reduceBEq, reduceCtorEq, Int.reduceToNat, ↓reduceIte, rfP, rvP, rhP, frP, blH, bytesOf_length, ByteArray.size_extract]) <;> (try clear ee))
    all_goals (rw [← hq]; first | rw [if_pos (by omega)] | rw [if_neg (by omega)])
  · have hH := spec_HeadOk v s b l
    rw [decide_eq_false hk] at hH
    unfold footT at hq
    rw [if_neg hk] at hq
    subst hq
    refine fn_x tok (n := 61) (rs := [.tmp 6]) Tryz.func29 (by decide) rfl rfl rfl rfl ?_
    refine Wr.go ?_
    repeat' ((first | (have ee := True.intro; refine Wr.mk ?_) | ((first | refine br_go ?_ ?_ | refine pick_go ?_ ?_) <;> intro ee f <;> (try simp only [BB] at f) <;> (try simp only [numOk, verOk] at f)) | (have ee := True.intro; first | refine call_x (hH) rfl ⟨rfl⟩ ?_)) <;> (try simp (maxSteps := 1000000) (disch := first | omega | (simp only [LN, numOk, verOk, rfP, rvP, rhP, frP, blH, bytesOf_length] <;> omega) | exact Ck.mk rfl) only [ee, VC, T, Nat.reduceMul, Nat.reduceAdd, Nat.reduceSub, Nat.reduceLT, Nat.reduceEqDiff, Nat.reduceLeDiff, Nat.reduceBEq, reduceCtorEq, Int.reduceToNat, ↓reduceIte, rfP, rvP, rhP, frP, blH, bytesOf_length]) <;> (try clear ee))
end Go.Pv

/- What functions of the program and of the reference do, in plain values. -/
namespace Go.Pv
open Go.Proofs Go.Mth
set_option linter.unusedSimpArgs false
set_option linter.unusedVariables false
set_option maxHeartbeats 4000000
set_option maxRecDepth 4000

/-! ### scans -/
def slN (K n : Nat) : PV := if n = 0 then .nils else .row K n
def hpN (K : Nat) (xs : List PV) : Hp := if xs.length = 0 then [] else [(K, .row ⟨1, 0⟩ xs)]
abbrev Sc := Bool × Int × Int × Int × Int × List ByteArray × List Int × Int × Bool
/-- A scan as it is handed back: its slices as one's own. -/
def scanR (t : Sc) : PV := .agg [.bool t.1, .int .i64 t.2.1, .int .i64 t.2.2.1, .int .i64 t.2.2.2.1, .int .i64 t.2.2.2.2.1, .row 64 t.2.2.2.2.2.1.length, .row 65 t.2.2.2.2.2.2.1.length, .int .i64 t.2.2.2.2.2.2.2.1, .bool t.2.2.2.2.2.2.2.2]
def scanH (t : Sc) : Hp := [(64, .row ⟨1, 0⟩ (t.2.2.2.2.2.1.map .str)), (65, .row ⟨1, 0⟩ (t.2.2.2.2.2.2.1.map (.int .i64)))]
def scanP (t : Sc) : PV := .agg [.bool t.1, .int .i64 t.2.1, .int .i64 t.2.2.1, .int .i64 t.2.2.2.1, .int .i64 t.2.2.2.2.1, .far (t.2.2.2.2.2.1.map .str), .far (t.2.2.2.2.2.2.1.map (.int .i64)), .int .i64 t.2.2.2.2.2.2.2.1, .bool t.2.2.2.2.2.2.2.2]
theorem impl_ScanR (b : ByteArray) (hb : b.size ≤ 1073741824) : FnE Tryz.prog 83 [.str b] [] (fun r m => r = scanR (scan b) ∧ m = scanH (scan b)) := by
  refine fn_e tok (n := 64) (rs := [.cell 2 84]) Tryz.func83 (by decide) rfl rfl rfl rfl (low_of rfl) ?_
  refine Wr.go ?_
  repeat' ((first | (have ee := True.intro; refine Wr.mk ?_) | ((first | refine br_go ?_ ?_ | refine pick_go ?_ ?_) <;> intro ee f <;> (try simp only [BB] at f) <;> (try simp only [numOk, verOk] at f)) | (have ee := True.intro; first | refine call_x (impl_ReadHead b (by omega)) rfl ⟨rfl⟩ ?_)) <;> (try simp (maxSteps := 1000000) (disch := first | omega | (simp only [LN, numOk, verOk, rfP, rvP, rhP, frP] <;> omega) | exact Ck.mk rfl) only [ee, VC, T, Nat.reduceMul, Nat.reduceAdd, Nat.reduceSub, Nat.reduceLT, Nat.reduceEqDiff, Nat.reduceLeDiff, Nat.reduceBEq, reduceCtorEq, Int.reduceToNat, ↓reduceIte, rfP, rvP, rhP, frP]) <;> (try clear ee))
  · have hk := rHead_ok b f
    obtain ⟨k1, k2, _⟩ := hk
    unfold headOk verOk numOk at k2
    have ht : scan b = (true, (rHead b).1, (rHead b).2.1, (rHead b).2.2.1, (rHead b).2.2.2.1, scanGo (rHead b).1 (rHead b).2.2.1 b (b.size + 1) [] [] 24) := by unfold scan; rw [if_pos f]
    generalize (rHead b).1 = v, (rHead b).2.1 = s, (rHead b).2.2.1 = base, (rHead b).2.2.2.1 = l at *
    refine lp_go (fun x : List ByteArray × List Int × Int × Nat => ⟨64, [(0, .str b), (2, .ref 192 0), (3, .ref 256 0), (5, .ref 384 0)], [(384, .box 84 [.bool true, .int .i64 v, .int .i64 s, .int .i64 base, .int .i64 l, slN 3456 x.1.length, slN 3904 x.2.1.length, .int .i64 x.2.2.1, .bool false]), (256, .box 60 [.int .i64 v, .int .i64 s, .int .i64 base, .int .i64 l]), (192, .box 84 [.bool false, .int .i64 0, .int .i64 0, .int .i64 0, .int .i64 0, .nils, .nils, .int .i64 0, .bool false])] ++ hpN 3456 (x.1.map .str) ++ hpN 3904 (x.2.1.map (.int .i64))⟩)
      (fun x => ScInv b x.1 x.2.1 x.2.2.1 ∧ (b.size : Int) < x.2.2.1 + x.2.2.2 ∧ scanGo v base b (b.size + 1) [] [] 24 = scanGo v base b x.2.2.2 x.1 x.2.1 x.2.2.1) (fun x => x.2.2.2) ([], [], 24, b.size + 1) ?_ ?_ ?_
    · (simp (disch := first | omega | (simp only [LN, numOk, verOk, slN, hpN] <;> omega) | exact Ck.mk rfl) only [SB, EQ, Nat.reduceMul, Nat.reduceAdd, Nat.reduceSub, Nat.reduceLT, Nat.reduceEqDiff, Nat.reduceLeDiff, Nat.reduceBEq, reduceCtorEq, Int.reduceToNat, ↓reduceIte, slN, hpN]; try omega)
    · exact ⟨⟨rfl, by simp, by simp only; omega, by simp, by simp, by simp⟩, by simp only; omega, rfl⟩
    · rintro ⟨rs, os, e, d⟩ ⟨hi, hd, hg⟩ N hN
      simp only at hi hd hg
      obtain ⟨i1, i2, i3, i4, i5, i6⟩ := id hi
      obtain ⟨d, rfl⟩ : ∃ d', d = d' + 1 := ⟨d - 1, by omega⟩
      have hst : scanGo v base b (d + 1) rs os e = if markAt v (base + rs.length) b e = true then (rs, os, e, true) else if (rFrame v (base + rs.length) b e).2.2 = true then scanGo v base b d (rs ++ [(rFrame v (base + rs.length) b e).1]) (os ++ [e]) (rFrame v (base + rs.length) b e).2.1 else (rs, os, e, false) := rfl
      have hok := rFrame_ok v (base + rs.length) b e
      have hsc := scInv_step v base b rs os e hi
      have next : (rFrame v (base + rs.length) b e).2.2 = true → markAt v (base + rs.length) b e = false → _ := fun h1 h2 => hN (rs ++ [(rFrame v (base + rs.length) b e).1], os ++ [e], (rFrame v (base + rs.length) b e).2.1, d)
      rw [ht, hg, hst]
      cases rs with
      | nil =>
        obtain rfl : os = [] := List.eq_nil_of_length_eq_zero (by simpa using i1.symm)
        simp only [List.length_nil, List.nil_append, show ((0 : Nat) : Int) = 0 from rfl, Int.add_zero] at *
        refine Wr.go ?_
        repeat' ((first | (have ee := True.intro; refine Wr.mk ?_) | ((first | refine br_go ?_ ?_ | refine pick_go ?_ ?_) <;> intro ee f <;> (try simp only [BB] at f) <;> (try simp only [numOk, verOk] at f)) | (have ee := True.intro; first | refine call_x (impl_MarkAt _ _ _ (by omega) _ (by omega) (by omega)) rfl ⟨rfl⟩ ?_ | refine call_x (impl_ReadFrame _ _ _ (by omega) _ (by omega) (by omega)) rfl ⟨rfl⟩ ?_)) <;> (try simp (maxSteps := 1000000) (disch := first | omega | (simp only [LN, numOk, verOk, rfP, rvP, rhP, frP, slN, hpN, wsmall, Int.add_zero] <;> omega) | exact Ck.mk rfl) only [ee, VC, T, Nat.reduceMul, Nat.reduceAdd, Nat.reduceSub, Nat.reduceLT, Nat.reduceEqDiff, Nat.reduceLeDiff, Nat.reduceBEq, reduceCtorEq, Int.reduceToNat, ↓reduceIte, rfP, rvP, rhP, frP, slN, hpN, wsmall, Int.add_zero]) <;> (try clear ee))
        · exact fin_t [none, none] ⟨rfl, rfl⟩ rfl (by simp [RV, RV2, RVl, RV1, tau, scanR, scanH, hget, data1, oneOf]) (by simp [RH, tau, scanH, hget]) (by simp [Taus, scanH, hget])
        · refine hN ([(rFrame v base b e).1], [e], (rFrame v base b e).2.1, d) _ ⟨hsc f, by have := hok f; simp only; omega, ?_⟩ (by simp) ?_
          · rw [hg, hst]; simp_all
          · (simp (disch := first | omega | (simp only [LN, numOk, verOk, slN, hpN] <;> omega) | exact Ck.mk rfl) only [SB, EQ, Nat.reduceMul, Nat.reduceAdd, Nat.reduceSub, Nat.reduceLT, Nat.reduceEqDiff, Nat.reduceLeDiff, Nat.reduceBEq, reduceCtorEq, Int.reduceToNat, ↓reduceIte, slN, hpN]; try omega); exact ⟨rfl, rfl⟩
        · exact fin_t [none, none] ⟨rfl, rfl⟩ rfl (by simp [RV, RV2, RVl, RV1, tau, scanR, scanH, hget, data1, oneOf]) (by simp [RH, tau, scanH, hget]) (by simp [Taus, scanH, hget])
      | cons r rs =>
        obtain ⟨o, os, rfl⟩ : ∃ o os', os = o :: os' := by
          cases os with
          | nil => simp at i1
          | cons o os => exact ⟨o, os, rfl⟩
        simp only [List.length_cons, show ((rs.length + 1 : Nat) : Int) = (rs.length : Int) + 1 from rfl] at *
        refine Wr.go ?_
        repeat' ((first | (have ee := True.intro; refine Wr.mk ?_) | ((first | refine br_go ?_ ?_ | refine pick_go ?_ ?_) <;> intro ee f <;> (try simp only [BB] at f) <;> (try simp only [numOk, verOk] at f)) | (have ee := True.intro; first | refine call_x (impl_MarkAt _ _ _ (by omega) _ (by omega) (by omega)) rfl ⟨rfl⟩ ?_ | refine call_x (impl_ReadFrame _ _ _ (by omega) _ (by omega) (by omega)) rfl ⟨rfl⟩ ?_)) <;> (try simp (maxSteps := 1000000) (disch := first | omega | (simp only [LN, numOk, verOk, rfP, rvP, rhP, frP, slN, hpN, wsmall] <;> omega) | exact Ck.mk rfl) only [ee, VC, T, Nat.reduceMul, Nat.reduceAdd, Nat.reduceSub, Nat.reduceLT, Nat.reduceEqDiff, Nat.reduceLeDiff, Nat.reduceBEq, reduceCtorEq, Int.reduceToNat, ↓reduceIte, rfP, rvP, rhP, frP, slN, hpN, wsmall]) <;> (try clear ee))
        · exact fin_t [some 3456, some 3904] ⟨rfl, rfl⟩ rfl (by simp [RV, RV2, RVl, RV1, tau, scanR, scanH, hget, data1, oneOf]) (by simp [RH, tau, scanH, hget]) (by simp [Taus, scanH, hget])
        · refine hN (r :: rs ++ [(rFrame v (base + (rs.length + 1)) b e).1], o :: os ++ [e], (rFrame v (base + (rs.length + 1)) b e).2.1, d) _ ⟨?_, ?_, ?_⟩ (by simp) ?_
          · exact hsc f
          · have := hok f; simp only; omega
          · rw [hg, hst]; simp_all
          · (simp (disch := first | omega | (simp only [LN, numOk, verOk, slN, hpN] <;> omega) | exact Ck.mk rfl) only [SB, EQ, Nat.reduceMul, Nat.reduceAdd, Nat.reduceSub, Nat.reduceLT, Nat.reduceEqDiff, Nat.reduceLeDiff, Nat.reduceBEq, reduceCtorEq, Int.reduceToNat, ↓reduceIte, slN, hpN]; try omega); exact ⟨rfl, rfl⟩
        · exact fin_t [some 3456, some 3904] ⟨rfl, rfl⟩ rfl (by simp [RV, RV2, RVl, RV1, tau, scanR, scanH, hget, data1, oneOf]) (by simp [RH, tau, scanH, hget]) (by simp [Taus, scanH, hget])
  · rw [show scan b = (false, 0, 0, 0, 0, [], [], 0, false) by unfold scan; rw [f]; rfl]
    exact fin_t [none, none] ⟨rfl, rfl⟩ rfl (by simp [RV, RV2, RVl, RV1, tau, scanR, scanH, hget, data1, oneOf]) (by simp [RH, tau, scanH, hget]) (by simp [Taus, scanH, hget])
theorem spec_ScanR (b : ByteArray) (hb : b.size ≤ 1073741824) : FnE Tryz.prog 60 [.str b] [] (fun r m => r = scanR (scan b) ∧ m = scanH (scan b)) := by
  refine fn_e tok (n := 64) (rs := [.cell 2 84]) Tryz.func60 (by decide) rfl rfl rfl rfl (low_of rfl) ?_
  refine Wr.go ?_
  repeat' ((first | (have ee := True.intro; refine Wr.mk ?_) | ((first | refine br_go ?_ ?_ | refine pick_go ?_ ?_) <;> intro ee f <;> (try simp only [BB] at f) <;> (try simp only [numOk, verOk] at f)) | (have ee := True.intro; first | refine call_x (spec_ReadHead b (by omega)) rfl ⟨rfl⟩ ?_)) <;> (try simp (maxSteps := 1000000) (disch := first | omega | (simp only [LN, numOk, verOk, rfP, rvP, rhP, frP] <;> omega) | exact Ck.mk rfl) only [ee, VC, T, Nat.reduceMul, Nat.reduceAdd, Nat.reduceSub, Nat.reduceLT, Nat.reduceEqDiff, Nat.reduceLeDiff, Nat.reduceBEq, reduceCtorEq, Int.reduceToNat, ↓reduceIte, rfP, rvP, rhP, frP]) <;> (try clear ee))
  · have hk := rHead_ok b f
    obtain ⟨k1, k2, _⟩ := hk
    unfold headOk verOk numOk at k2
    have ht : scan b = (true, (rHead b).1, (rHead b).2.1, (rHead b).2.2.1, (rHead b).2.2.2.1, scanGo (rHead b).1 (rHead b).2.2.1 b (b.size + 1) [] [] 24) := by unfold scan; rw [if_pos f]
    generalize (rHead b).1 = v, (rHead b).2.1 = s, (rHead b).2.2.1 = base, (rHead b).2.2.2.1 = l at *
    refine lp_go (fun x : List ByteArray × List Int × Int × Nat => ⟨64, [(0, .str b), (2, .ref 192 0), (3, .ref 256 0), (5, .ref 384 0)], [(384, .box 84 [.bool true, .int .i64 v, .int .i64 s, .int .i64 base, .int .i64 l, slN 3456 x.1.length, slN 3904 x.2.1.length, .int .i64 x.2.2.1, .bool false]), (256, .box 60 [.int .i64 v, .int .i64 s, .int .i64 base, .int .i64 l]), (192, .box 84 [.bool false, .int .i64 0, .int .i64 0, .int .i64 0, .int .i64 0, .nils, .nils, .int .i64 0, .bool false])] ++ hpN 3456 (x.1.map .str) ++ hpN 3904 (x.2.1.map (.int .i64))⟩)
      (fun x => ScInv b x.1 x.2.1 x.2.2.1 ∧ (b.size : Int) < x.2.2.1 + x.2.2.2 ∧ scanGo v base b (b.size + 1) [] [] 24 = scanGo v base b x.2.2.2 x.1 x.2.1 x.2.2.1) (fun x => x.2.2.2) ([], [], 24, b.size + 1) ?_ ?_ ?_
    · (simp (disch := first | omega | (simp only [LN, numOk, verOk, slN, hpN] <;> omega) | exact Ck.mk rfl) only [SB, EQ, Nat.reduceMul, Nat.reduceAdd, Nat.reduceSub, Nat.reduceLT, Nat.reduceEqDiff, Nat.reduceLeDiff, Nat.reduceBEq, reduceCtorEq, Int.reduceToNat, ↓reduceIte, slN, hpN]; try omega)
    · exact ⟨⟨rfl, by simp, by simp only; omega, by simp, by simp, by simp⟩, by simp only; omega, rfl⟩
    · rintro ⟨rs, os, e, d⟩ ⟨hi, hd, hg⟩ N hN
      simp only at hi hd hg
      obtain ⟨i1, i2, i3, i4, i5, i6⟩ := id hi
      obtain ⟨d, rfl⟩ : ∃ d', d = d' + 1 := ⟨d - 1, by omega⟩
      have hst : scanGo v base b (d + 1) rs os e = if markAt v (base + rs.length) b e = true then (rs, os, e, true) else if (rFrame v (base + rs.length) b e).2.2 = true then scanGo v base b d (rs ++ [(rFrame v (base + rs.length) b e).1]) (os ++ [e]) (rFrame v (base + rs.length) b e).2.1 else (rs, os, e, false) := rfl
      have hok := rFrame_ok v (base + rs.length) b e
      have hsc := scInv_step v base b rs os e hi
      have next : (rFrame v (base + rs.length) b e).2.2 = true → markAt v (base + rs.length) b e = false → _ := fun h1 h2 => hN (rs ++ [(rFrame v (base + rs.length) b e).1], os ++ [e], (rFrame v (base + rs.length) b e).2.1, d)
      rw [ht, hg, hst]
      cases rs with
      | nil =>
        obtain rfl : os = [] := List.eq_nil_of_length_eq_zero (by simpa using i1.symm)
        simp only [List.length_nil, List.nil_append, show ((0 : Nat) : Int) = 0 from rfl, Int.add_zero] at *
        refine Wr.go ?_
        repeat' ((first | (have ee := True.intro; refine Wr.mk ?_) | ((first | refine br_go ?_ ?_ | refine pick_go ?_ ?_) <;> intro ee f <;> (try simp only [BB] at f) <;> (try simp only [numOk, verOk] at f)) | (have ee := True.intro; first | refine call_x (spec_MarkAt _ _ _ (by omega) _ (by omega) (by omega)) rfl ⟨rfl⟩ ?_ | refine call_x (spec_ReadFrame _ _ _ (by omega) _ (by omega) (by omega)) rfl ⟨rfl⟩ ?_)) <;> (try simp (maxSteps := 1000000) (disch := first | omega | (simp only [LN, numOk, verOk, rfP, rvP, rhP, frP, slN, hpN, wsmall, Int.add_zero] <;> omega) | exact Ck.mk rfl) only [ee, VC, T, Nat.reduceMul, Nat.reduceAdd, Nat.reduceSub, Nat.reduceLT, Nat.reduceEqDiff, Nat.reduceLeDiff, Nat.reduceBEq, reduceCtorEq, Int.reduceToNat, ↓reduceIte, rfP, rvP, rhP, frP, slN, hpN, wsmall, Int.add_zero]) <;> (try clear ee))
        · exact fin_t [none, none] ⟨rfl, rfl⟩ rfl (by simp [RV, RV2, RVl, RV1, tau, scanR, scanH, hget, data1, oneOf]) (by simp [RH, tau, scanH, hget]) (by simp [Taus, scanH, hget])
        · refine hN ([(rFrame v base b e).1], [e], (rFrame v base b e).2.1, d) _ ⟨hsc f, by have := hok f; simp only; omega, ?_⟩ (by simp) ?_
          · rw [hg, hst]; simp_all
          · (simp (disch := first | omega | (simp only [LN, numOk, verOk, slN, hpN] <;> omega) | exact Ck.mk rfl) only [SB, EQ, Nat.reduceMul, Nat.reduceAdd, Nat.reduceSub, Nat.reduceLT, Nat.reduceEqDiff, Nat.reduceLeDiff, Nat.reduceBEq, reduceCtorEq, Int.reduceToNat, ↓reduceIte, slN, hpN]; try omega); exact ⟨rfl, rfl⟩
        · exact fin_t [none, none] ⟨rfl, rfl⟩ rfl (by simp [RV, RV2, RVl, RV1, tau, scanR, scanH, hget, data1, oneOf]) (by simp [RH, tau, scanH, hget]) (by simp [Taus, scanH, hget])
      | cons r rs =>
        obtain ⟨o, os, rfl⟩ : ∃ o os', os = o :: os' := by
          cases os with
          | nil => simp at i1
          | cons o os => exact ⟨o, os, rfl⟩
        simp only [List.length_cons, show ((rs.length + 1 : Nat) : Int) = (rs.length : Int) + 1 from rfl] at *
        refine Wr.go ?_
        repeat' ((first | (have ee := True.intro; refine Wr.mk ?_) | ((first | refine br_go ?_ ?_ | refine pick_go ?_ ?_) <;> intro ee f <;> (try simp only [BB] at f) <;> (try simp only [numOk, verOk] at f)) | (have ee := True.intro; first | refine call_x (spec_MarkAt _ _ _ (by omega) _ (by omega) (by omega)) rfl ⟨rfl⟩ ?_ | refine call_x (spec_ReadFrame _ _ _ (by omega) _ (by omega) (by omega)) rfl ⟨rfl⟩ ?_)) <;> (try simp (maxSteps := 1000000) (disch := first | omega | (simp only [LN, numOk, verOk, rfP, rvP, rhP, frP, slN, hpN, wsmall] <;> omega) | exact Ck.mk rfl) only [ee, VC, T, Nat.reduceMul, Nat.reduceAdd, Nat.reduceSub, Nat.reduceLT, Nat.reduceEqDiff, Nat.reduceLeDiff, Nat.reduceBEq, reduceCtorEq, Int.reduceToNat, ↓reduceIte, rfP, rvP, rhP, frP, slN, hpN, wsmall]) <;> (try clear ee))
        · exact fin_t [some 3456, some 3904] ⟨rfl, rfl⟩ rfl (by simp [RV, RV2, RVl, RV1, tau, scanR, scanH, hget, data1, oneOf]) (by simp [RH, tau, scanH, hget]) (by simp [Taus, scanH, hget])
        · refine hN (r :: rs ++ [(rFrame v (base + (rs.length + 1)) b e).1], o :: os ++ [e], (rFrame v (base + (rs.length + 1)) b e).2.1, d) _ ⟨?_, ?_, ?_⟩ (by simp) ?_
          · exact hsc f
          · have := hok f; simp only; omega
          · rw [hg, hst]; simp_all
          · (simp (disch := first | omega | (simp only [LN, numOk, verOk, slN, hpN] <;> omega) | exact Ck.mk rfl) only [SB, EQ, Nat.reduceMul, Nat.reduceAdd, Nat.reduceSub, Nat.reduceLT, Nat.reduceEqDiff, Nat.reduceLeDiff, Nat.reduceBEq, reduceCtorEq, Int.reduceToNat, ↓reduceIte, slN, hpN]; try omega); exact ⟨rfl, rfl⟩
        · exact fin_t [some 3456, some 3904] ⟨rfl, rfl⟩ rfl (by simp [RV, RV2, RVl, RV1, tau, scanR, scanH, hget, data1, oneOf]) (by simp [RH, tau, scanH, hget]) (by simp [Taus, scanH, hget])
  · rw [show scan b = (false, 0, 0, 0, 0, [], [], 0, false) by unfold scan; rw [f]; rfl]
    exact fin_t [none, none] ⟨rfl, rfl⟩ rfl (by simp [RV, RV2, RVl, RV1, tau, scanR, scanH, hget, data1, oneOf]) (by simp [RH, tau, scanH, hget]) (by simp [Taus, scanH, hget])
theorem impl_Scan (b : ByteArray) (hb : b.size ≤ 1073741824) : Fn Tryz.prog 83 [.str b] [] (scanP (scan b)) [] := by
  obtain ⟨_, _, ⟨rfl, rfl⟩, h⟩ := impl_ScanR b hb
  refine h.far ?_
  simp [fz, fz2, fz1, cvtl, elems, scanR, scanH, scanP, hget, data1]
theorem spec_Scan (b : ByteArray) (hb : b.size ≤ 1073741824) : Fn Tryz.prog 60 [.str b] [] (scanP (scan b)) [] := by
  obtain ⟨_, _, ⟨rfl, rfl⟩, h⟩ := spec_ScanR b hb
  refine h.far ?_
  simp [fz, fz2, fz1, cvtl, elems, scanR, scanH, scanP, hget, data1]
end Go.Pv

/- What functions of the program and of the reference do, in plain values. -/
namespace Go.Pv
open Go.Proofs Go.Mth
set_option linter.unusedSimpArgs false
set_option linter.unusedVariables false
set_option maxHeartbeats 4000000
set_option maxRecDepth 4000

end Go.Pv

/- What functions of the program and of the reference do, in plain values. -/
namespace Go.Pv
open Go.Proofs Go.Mth
set_option linter.unusedSimpArgs false
set_option linter.unusedVariables false
set_option maxHeartbeats 4000000
set_option maxRecDepth 4000

/-! ### sealed files, read -/
def rsP (x : (Int × Int × Int × Int) × List ByteArray × Bool) : PV := .tup [.agg [.int .i64 x.1.1, .int .i64 x.1.2.1, .int .i64 x.1.2.2.1, .int .i64 x.1.2.2.2], .far (x.2.1.map .str), .bool x.2.2]
def rsR (x : (Int × Int × Int × Int) × List ByteArray × Bool) : PV := .tup [.agg [.int .i64 x.1.1, .int .i64 x.1.2.1, .int .i64 x.1.2.2.1, .int .i64 x.1.2.2.2], .row 64 x.2.1.length, .bool x.2.2]
def rsH (x : (Int × Int × Int × Int) × List ByteArray × Bool) : Hp := [(64, .row ⟨1, 0⟩ (x.2.1.map .str))]
theorem impl_LinkAfter (b : ByteArray) (hb : b.size ≤ 1073741824) : Fn Tryz.prog 39 [.str b] [] (.int .i64 (linkAll (scan b).2.2.2.2.1 (scan b).2.2.2.2.2.1)) [] := by
  have hS := impl_Scan b hb
  have hF := scan_f b
  generalize scan b = t at *
  obtain ⟨ok, v, s, base, l, rs, os, e, m⟩ := t
  obtain ⟨f1, f2, f3, f4, f5, f6, f7, f8, f9⟩ := hF
  simp only at f1 f2 f3 f4 f5 f6 f7 f8 f9 hS ⊢
  have hL := impl_linkAll l rs (by omega) (fun r hr => by have := f6 r hr; omega)
  refine fn_x tok (n := 12) (rs := [.tmp 2]) Tryz.func39 (by decide) rfl rfl rfl rfl ?_
  refine Wr.go ?_
  repeat' ((first | (have ee := True.intro; refine Wr.mk ?_) | ((first | refine br_go ?_ ?_ | refine pick_go ?_ ?_) <;> intro ee f <;> (try simp only [BB] at f) <;> (try simp only [numOk, verOk] at f)) | (have ee := True.intro; first | refine call_x (hS) rfl ⟨rfl⟩ ?_ | refine call_x (hL) rfl ⟨rfl⟩ ?_)) <;> (try simp (maxSteps := 1000000) (disch := first | omega | (simp only [LN, numOk, verOk, rfP, rvP, rhP, frP, blH, bytesOf_length, scanR, scanH, scanP, rsP, rsR, rsH] <;> omega) | exact Ck.mk rfl) only [ee, VC, T, Nat.reduceMul, Nat.reduceAdd, Nat.reduceSub, Nat.reduceLT, Nat.reduceEqDiff, Nat.reduceLeDiff, Nat.reduceBEq, reduceCtorEq, Int.reduceToNat, ↓reduceIte, rfP, rvP, rhP, frP, blH, bytesOf_length, scanR, scanH, scanP, rsP, rsR, rsH]) <;> (try clear ee))
end Go.Pv

/- What functions of the program and of the reference do, in plain values. -/
namespace Go.Pv
open Go.Proofs Go.Mth
set_option linter.unusedSimpArgs false
set_option linter.unusedVariables false
set_option maxHeartbeats 4000000
set_option maxRecDepth 4000

end Go.Pv

/- What functions of the program and of the reference do, in plain values. -/
namespace Go.Pv
open Go.Proofs Go.Mth
set_option linter.unusedSimpArgs false
set_option linter.unusedVariables false
set_option maxHeartbeats 4000000
set_option maxRecDepth 4000

end Go.Pv

/- What functions of the program and of the reference do, in plain values. -/
namespace Go.Pv
open Go.Proofs Go.Mth
set_option linter.unusedSimpArgs false
set_option linter.unusedVariables false
set_option maxHeartbeats 4000000
set_option maxRecDepth 4000

/-! ### the reference's rows -/
theorem spec_LinkAfter (b : ByteArray) (hb : b.size ≤ 1073741824) : Fn Tryz.prog 26 [.str b] [] (.int .i64 (linkAll (scan b).2.2.2.2.1 (scan b).2.2.2.2.2.1)) [] := by
  have hS := spec_Scan b hb
  have hF := scan_f b
  generalize scan b = t at *
  obtain ⟨ok, v, s, base, l, rs, os, e, m⟩ := t
  obtain ⟨f1, f2, f3, f4, f5, f6, f7, f8, f9⟩ := hF
  simp only [scanP] at f1 f2 f3 f4 f5 f6 f7 f8 f9 hS ⊢
  refine fn_x tok (n := 26) (rs := [.tmp 2]) Tryz.func26 (by decide) rfl rfl rfl rfl ?_
  refine Wr.go ?_
  repeat' ((first | (have ee := True.intro; refine Wr.mk ?_) | ((first | refine br_go ?_ ?_ | refine pick_go ?_ ?_) <;> intro ee f <;> (try simp only [BB] at f) <;> (try simp only [numOk, verOk] at f)) | (have ee := True.intro; first | refine call_x (hS) rfl ⟨rfl⟩ ?_)) <;> (try simp (maxSteps := 1000000) (disch := first | omega | (simp only [LN, numOk, verOk, rfP, rvP, rhP, frP] <;> omega) | exact Ck.mk rfl) only [ee, VC, T, Nat.reduceMul, Nat.reduceAdd, Nat.reduceSub, Nat.reduceLT, Nat.reduceEqDiff, Nat.reduceLeDiff, Nat.reduceBEq, reduceCtorEq, Int.reduceToNat, ↓reduceIte, rfP, rvP, rhP, frP]) <;> (try clear ee))
  refine lp_go (fun i : Nat => ⟨26, [(3, .ref 256 0), (4, .int .i64 (linkAll l (rs.take i))), (5, .int .i64 i)], [(256, .box 84 [.bool ok, .int .i64 v, .int .i64 s, .int .i64 base, .int .i64 l, .far (rs.map .str), .far (os.map (.int .i64)), .int .i64 e, .bool m])]⟩) (fun i => i ≤ rs.length) (fun i => rs.length - i) 0 ?_ (by omega) ?_
  · (simp (disch := first | omega | (simp only [LN, numOk, verOk] <;> omega) | exact Ck.mk rfl) only [SB, EQ, Nat.reduceMul, Nat.reduceAdd, Nat.reduceSub, Nat.reduceLT, Nat.reduceEqDiff, Nat.reduceLeDiff, Nat.reduceBEq, reduceCtorEq, Int.reduceToNat, ↓reduceIte]; try omega)
    rfl
  · intro i hi N hN
    refine Wr.go ?_
    repeat' ((first | (have ee := True.intro; refine Wr.mk ?_) | ((first | refine br_go ?_ ?_ | refine pick_go ?_ ?_) <;> intro ee f <;> (try simp only [BB] at f) <;> (try simp only [numOk, verOk] at f)) | (have ee := True.intro; first | refine call_x (spec_LinkMore _ _ (by have := f6 _ (getD_mem rs i (by omega)); omega)) rfl ⟨rfl⟩ ?_)) <;> (try simp (maxSteps := 1000000) (disch := first | omega | (simp only [LN, numOk, verOk, rfP, rvP, rhP, frP, linkAll_snoc] <;> omega) | exact Ck.mk rfl) only [ee, VC, T, Nat.reduceMul, Nat.reduceAdd, Nat.reduceSub, Nat.reduceLT, Nat.reduceEqDiff, Nat.reduceLeDiff, Nat.reduceBEq, reduceCtorEq, Int.reduceToNat, ↓reduceIte, rfP, rvP, rhP, frP, linkAll_snoc]) <;> (try clear ee))
    · refine hN (i + 1) _ (by omega) (by omega) ?_
      (simp (disch := first | omega | (simp only [LN, numOk, verOk] <;> omega) | exact Ck.mk rfl) only [SB, EQ, Nat.reduceMul, Nat.reduceAdd, Nat.reduceSub, Nat.reduceLT, Nat.reduceEqDiff, Nat.reduceLeDiff, Nat.reduceBEq, reduceCtorEq, Int.reduceToNat, ↓reduceIte]; try omega)
    · obtain rfl : i = rs.length := by omega
      rw [List.take_length]
end Go.Pv

/- What functions of the program and of the reference do, in plain values. -/
namespace Go.Pv
open Go.Proofs Go.Mth
set_option linter.unusedSimpArgs false
set_option linter.unusedVariables false
set_option maxHeartbeats 4000000
set_option maxRecDepth 4000

/-! ### the laws' own functions: slices of numbers and of texts -/
theorem eq_step {α : Type} [Inhabited α] (xs ys : List α) (i : Nat) (hl : xs.length = ys.length) (hi : i < xs.length) (h : xs.take i = ys.take i) (he : xs.getD i default = ys.getD i default) : xs.take (i + 1) = ys.take (i + 1) := by
  rw [List.take_succ_eq_append_getElem hi, List.take_succ_eq_append_getElem (by omega), h]
  rw [List.getD_eq_getElem?_getD, List.getD_eq_getElem?_getD, List.getElem?_eq_getElem hi, List.getElem?_eq_getElem (by omega : i < ys.length)] at he
  exact congrArg (fun x => ys.take i ++ [x]) he
theorem row_step {α : Type} [Inhabited α] (xs : List α) (z : α) (n i : Nat) (hn : n = xs.length) (hi : i < n) : (xs.take i ++ List.replicate (n - i) z).set i (xs.getD i default) = xs.take (i + 1) ++ List.replicate (n - (i + 1)) z := by
  subst hn
  rw [show xs.length - i = (xs.length - (i + 1)) + 1 by omega, List.replicate_succ, List.take_succ_eq_append_getElem hi, List.set_append_right _ _ (by rw [List.length_take]; omega), List.length_take, Nat.min_eq_left (by omega), Nat.sub_self, List.set_cons_zero, List.append_assoc, List.getD_eq_getElem?_getD, List.getElem?_eq_getElem hi]
  rfl
theorem mark_step {α : Type} (f : Int → α) (xs : List α) (k : Int) (i : Nat) (hi : i < xs.length) : ((seqL i k).map f ++ xs.drop i).set i (f (k + i)) = (seqL (i + 1) k).map f ++ xs.drop (i + 1) := by
  rw [List.drop_eq_getElem_cons hi, List.set_append_right _ _ (by rw [List.length_map, seqL_length]; omega), List.length_map, seqL_length, Nat.sub_self, List.set_cons_zero, seqL_snoc, List.map_append, List.append_assoc]; rfl
theorem seqL_getD {α : Type} (f : Int → α) [Inhabited α] (n : Nat) (k : Int) (i : Nat) (hi : i < n) : ((seqL n k).map f).getD i default = f (k + i) := by
  have h := seqL_get n k i hi
  rw [rd, Int.toNat_natCast, List.getD_eq_getElem?_getD] at h
  have hl : i < (seqL n k).length := by rw [seqL_length]; exact hi
  rw [List.getElem?_eq_getElem hl] at h
  rw [List.getD_eq_getElem?_getD, List.getElem?_map, List.getElem?_eq_getElem hl]
  exact congrArg f h
theorem laws_eqStr (xs ys : List ByteArray) (hx : xs.length ≤ 4611686018427387904) : Fn Tryz.prog 47 [.far (xs.map .str), .far (ys.map .str)] [] (.bool (decide (xs = ys))) [] := by
  refine fn_x tok (n := 26) (rs := [.tmp 4]) Tryz.func47 (by decide) rfl rfl rfl rfl ?_
  refine Wr.go ?_
  repeat' ((first | (have ee := True.intro; refine Wr.mk ?_) | ((first | refine br_go ?_ ?_ | refine pick_go ?_ ?_) <;> intro ee f <;> (try simp only [BB] at f) <;> (try simp only [numOk, verOk] at f))) <;> (try simp (maxSteps := 1000000) (disch := first | omega | (simp only [LN, numOk, verOk] <;> omega) | exact Ck.mk rfl) only [ee, VC, T, Nat.reduceMul, Nat.reduceAdd, Nat.reduceSub, Nat.reduceLT, Nat.reduceEqDiff, Nat.reduceLeDiff, Nat.reduceBEq, reduceCtorEq, Int.reduceToNat, ↓reduceIte]) <;> (try clear ee))
  · have hl : xs.length = ys.length := by omega
    refine lp_go (fun i : Nat => ⟨26, [(0, .far (xs.map .str)), (1, .far (ys.map .str)), (5, .int .i64 i)], []⟩) (fun i => i ≤ xs.length ∧ xs.take i = ys.take i) (fun i => xs.length - i) 0 ?_ ⟨Nat.zero_le _, rfl⟩ ?_
    · (simp (disch := first | omega | (simp only [LN, numOk, verOk] <;> omega) | exact Ck.mk rfl) only [SB, EQ, Nat.reduceMul, Nat.reduceAdd, Nat.reduceSub, Nat.reduceLT, Nat.reduceEqDiff, Nat.reduceLeDiff, Nat.reduceBEq, reduceCtorEq, Int.reduceToNat, ↓reduceIte]; try omega)
    · rintro i ⟨h1, h2⟩ N hN
      refine Wr.go ?_
      repeat' ((first | (have ee := True.intro; refine Wr.mk ?_) | ((first | refine br_go ?_ ?_ | refine pick_go ?_ ?_) <;> intro ee f <;> (try simp only [BB] at f) <;> (try simp only [numOk, verOk] at f)) | (have ee := True.intro; first | refine dr_go mixed (id := 6) [([], [0], []), ([], [5], []), ([0, 1], [17, 18], []), ([0, 1, 2], [19], []), ([], [1], []), ([], [5], []), ([4, 5], [21, 22], []), ([4, 5, 6], [23], []), ([0, 1, 2, 3, 4, 5, 6, 7], [20, 24], [])] rfl rfl rfl ?_)) <;> (try simp (maxSteps := 1000000) (disch := first | omega | (simp only [LN, numOk, verOk] <;> omega) | exact Ck.mk rfl) only [ee, VC, T, Nat.reduceMul, Nat.reduceAdd, Nat.reduceSub, Nat.reduceLT, Nat.reduceEqDiff, Nat.reduceLeDiff, Nat.reduceBEq, reduceCtorEq, Int.reduceToNat, ↓reduceIte]) <;> (try clear ee))
      · refine hN (i + 1) _ ⟨by omega, eq_step xs ys i hl (by omega) h2 f⟩ (by omega) ?_
        (simp (disch := first | omega | (simp only [LN, numOk, verOk] <;> omega) | exact Ck.mk rfl) only [SB, EQ, Nat.reduceMul, Nat.reduceAdd, Nat.reduceSub, Nat.reduceLT, Nat.reduceEqDiff, Nat.reduceLeDiff, Nat.reduceBEq, reduceCtorEq, Int.reduceToNat, ↓reduceIte]; try omega)
      · rw [decide_eq_false fun h => f (by rw [h])]
      · rw [List.take_of_length_le (by omega), List.take_of_length_le (by omega)] at h2
        rw [decide_eq_true h2]
  · rw [decide_eq_false fun h => f (by rw [h])]
theorem laws_eqInt (xs ys : List Int) (hx : xs.length ≤ 4611686018427387904) : Fn Tryz.prog 48 [.far (xs.map (.int .i64)), .far (ys.map (.int .i64))] [] (.bool (decide (xs = ys))) [] := by
  refine fn_x tok (n := 26) (rs := [.tmp 4]) Tryz.func48 (by decide) rfl rfl rfl rfl ?_
  refine Wr.go ?_
  repeat' ((first | (have ee := True.intro; refine Wr.mk ?_) | ((first | refine br_go ?_ ?_ | refine pick_go ?_ ?_) <;> intro ee f <;> (try simp only [BB] at f) <;> (try simp only [numOk, verOk] at f))) <;> (try simp (maxSteps := 1000000) (disch := first | omega | (simp only [LN, numOk, verOk] <;> omega) | exact Ck.mk rfl) only [ee, VC, T, Nat.reduceMul, Nat.reduceAdd, Nat.reduceSub, Nat.reduceLT, Nat.reduceEqDiff, Nat.reduceLeDiff, Nat.reduceBEq, reduceCtorEq, Int.reduceToNat, ↓reduceIte]) <;> (try clear ee))
  · have hl : xs.length = ys.length := by omega
    refine lp_go (fun i : Nat => ⟨26, [(0, .far (xs.map (.int .i64))), (1, .far (ys.map (.int .i64))), (5, .int .i64 i)], []⟩) (fun i => i ≤ xs.length ∧ xs.take i = ys.take i) (fun i => xs.length - i) 0 ?_ ⟨Nat.zero_le _, rfl⟩ ?_
    · (simp (disch := first | omega | (simp only [LN, numOk, verOk] <;> omega) | exact Ck.mk rfl) only [SB, EQ, Nat.reduceMul, Nat.reduceAdd, Nat.reduceSub, Nat.reduceLT, Nat.reduceEqDiff, Nat.reduceLeDiff, Nat.reduceBEq, reduceCtorEq, Int.reduceToNat, ↓reduceIte]; try omega)
    · rintro i ⟨h1, h2⟩ N hN
      refine Wr.go ?_
      repeat' ((first | (have ee := True.intro; refine Wr.mk ?_) | ((first | refine br_go ?_ ?_ | refine pick_go ?_ ?_) <;> intro ee f <;> (try simp only [BB] at f) <;> (try simp only [numOk, verOk] at f)) | (have ee := True.intro; first | refine dr_go mixed (id := 6) [([], [0], []), ([], [5], []), ([0, 1], [17, 18], []), ([0, 1, 2], [19], []), ([], [1], []), ([], [5], []), ([4, 5], [21, 22], []), ([4, 5, 6], [23], []), ([0, 1, 2, 3, 4, 5, 6, 7], [20, 24], [])] rfl rfl rfl ?_)) <;> (try simp (maxSteps := 1000000) (disch := first | omega | (simp only [LN, numOk, verOk] <;> omega) | exact Ck.mk rfl) only [ee, VC, T, Nat.reduceMul, Nat.reduceAdd, Nat.reduceSub, Nat.reduceLT, Nat.reduceEqDiff, Nat.reduceLeDiff, Nat.reduceBEq, reduceCtorEq, Int.reduceToNat, ↓reduceIte]) <;> (try clear ee))
      · refine hN (i + 1) _ ⟨by omega, eq_step xs ys i hl (by omega) h2 f⟩ (by omega) ?_
        (simp (disch := first | omega | (simp only [LN, numOk, verOk] <;> omega) | exact Ck.mk rfl) only [SB, EQ, Nat.reduceMul, Nat.reduceAdd, Nat.reduceSub, Nat.reduceLT, Nat.reduceEqDiff, Nat.reduceLeDiff, Nat.reduceBEq, reduceCtorEq, Int.reduceToNat, ↓reduceIte]; try omega)
      · rw [decide_eq_false fun h => f (by rw [h])]
      · rw [List.take_of_length_le (by omega), List.take_of_length_le (by omega)] at h2
        rw [decide_eq_true h2]
  · rw [decide_eq_false fun h => f (by rw [h])]
theorem laws_toStr_R (xs : List ByteArray) (hx : xs.length ≤ 1073741824) : FnE Tryz.prog 34 [.far (xs.map .str)] [] (fun r m => r = .row 64 xs.length ∧ m = [(64, .row ⟨1, 0⟩ (xs.map .str))]) := by
  refine fn_e tok (n := 22) (rs := [.tmp 2]) Tryz.func34 (by decide) rfl rfl rfl rfl (low_of rfl) ?_
  refine Wr.go ?_
  repeat' ((first | (have ee := True.intro; refine Wr.mk ?_) | ((first | refine br_go ?_ ?_ | refine pick_go ?_ ?_) <;> intro ee f <;> (try simp only [BB] at f) <;> (try simp only [numOk, verOk] at f))) <;> (try simp (maxSteps := 1000000) (disch := first | omega | (simp only [LN, numOk, verOk] <;> omega) | exact Ck.mk rfl) only [ee, VC, T, Nat.reduceMul, Nat.reduceAdd, Nat.reduceSub, Nat.reduceLT, Nat.reduceEqDiff, Nat.reduceLeDiff, Nat.reduceBEq, reduceCtorEq, Int.reduceToNat, ↓reduceIte]) <;> (try clear ee))
  refine lp_go (fun i : Nat => ⟨22, [(0, .far (xs.map .str)), (3, .row 512 xs.length), (4, .int .i64 i)], [(512, .row ⟨1, 0⟩ ((xs.take i ++ List.replicate (xs.length - i) (⟨#[]⟩ : ByteArray)).map .str))]⟩) (fun i => i ≤ xs.length) (fun i => xs.length - i) 0 ?_ (Nat.zero_le _) ?_
  · (simp (disch := first | omega | (simp only [LN, numOk, verOk] <;> omega) | exact Ck.mk rfl) only [SB, EQ, Nat.reduceMul, Nat.reduceAdd, Nat.reduceSub, Nat.reduceLT, Nat.reduceEqDiff, Nat.reduceLeDiff, Nat.reduceBEq, reduceCtorEq, Int.reduceToNat, ↓reduceIte]; try omega)
    first | (simp; done) | (simp; exact .inr rfl)
  · intro i hi N hN
    have hs := row_step xs (⟨#[]⟩ : ByteArray) xs.length i rfl
    have hln : (xs.take i ++ List.replicate (xs.length - i) (⟨#[]⟩ : ByteArray)).length = xs.length := by rw [List.length_append, List.length_take, List.length_replicate]; omega
    refine Wr.go ?_
    repeat' ((first | (have ee := True.intro; refine Wr.mk ?_) | ((first | refine br_go ?_ ?_ | refine pick_go ?_ ?_) <;> intro ee f <;> (try simp only [BB] at f) <;> (try simp only [numOk, verOk] at f))) <;> (try simp (maxSteps := 1000000) (disch := first | omega | (simp only [LN, numOk, verOk, hln, hs] <;> omega) | exact Ck.mk rfl) only [ee, VC, T, Nat.reduceMul, Nat.reduceAdd, Nat.reduceSub, Nat.reduceLT, Nat.reduceEqDiff, Nat.reduceLeDiff, Nat.reduceBEq, reduceCtorEq, Int.reduceToNat, ↓reduceIte, hln, hs]) <;> (try clear ee))
    · refine hN (i + 1) _ (by omega) (by omega) ?_
      (simp (disch := first | omega | (simp only [LN, numOk, verOk] <;> omega) | exact Ck.mk rfl) only [SB, EQ, Nat.reduceMul, Nat.reduceAdd, Nat.reduceSub, Nat.reduceLT, Nat.reduceEqDiff, Nat.reduceLeDiff, Nat.reduceBEq, reduceCtorEq, Int.reduceToNat, ↓reduceIte]; try omega)
    · obtain rfl : i = xs.length := by omega
      exact fin_t [some 512] (⟨rfl, rfl⟩) rfl (by simp [RV, RV2, RVl, RV1, tau, tget, hget, data1, oneOf]) (by simp [RH, RVl, RV1, tau, hget, data1]) (by simp [Taus, hget])
theorem laws_toInt_R (xs : List Int) (hx : xs.length ≤ 1073741824) : FnE Tryz.prog 35 [.far (xs.map (.int .i64))] [] (fun r m => r = .row 64 xs.length ∧ m = [(64, .row ⟨1, 0⟩ (xs.map (.int .i64)))]) := by
  refine fn_e tok (n := 22) (rs := [.tmp 2]) Tryz.func35 (by decide) rfl rfl rfl rfl (low_of rfl) ?_
  refine Wr.go ?_
  repeat' ((first | (have ee := True.intro; refine Wr.mk ?_) | ((first | refine br_go ?_ ?_ | refine pick_go ?_ ?_) <;> intro ee f <;> (try simp only [BB] at f) <;> (try simp only [numOk, verOk] at f))) <;> (try simp (maxSteps := 1000000) (disch := first | omega | (simp only [LN, numOk, verOk] <;> omega) | exact Ck.mk rfl) only [ee, VC, T, Nat.reduceMul, Nat.reduceAdd, Nat.reduceSub, Nat.reduceLT, Nat.reduceEqDiff, Nat.reduceLeDiff, Nat.reduceBEq, reduceCtorEq, Int.reduceToNat, ↓reduceIte]) <;> (try clear ee))
  refine lp_go (fun i : Nat => ⟨22, [(0, .far (xs.map (.int .i64))), (3, .row 512 xs.length), (4, .int .i64 i)], [(512, .row ⟨1, 0⟩ ((xs.take i ++ List.replicate (xs.length - i) (0 : Int)).map (.int .i64)))]⟩) (fun i => i ≤ xs.length) (fun i => xs.length - i) 0 ?_ (Nat.zero_le _) ?_
  · (simp (disch := first | omega | (simp only [LN, numOk, verOk] <;> omega) | exact Ck.mk rfl) only [SB, EQ, Nat.reduceMul, Nat.reduceAdd, Nat.reduceSub, Nat.reduceLT, Nat.reduceEqDiff, Nat.reduceLeDiff, Nat.reduceBEq, reduceCtorEq, Int.reduceToNat, ↓reduceIte]; try omega)
    first | (simp; done) | (simp; exact .inr rfl)
  · intro i hi N hN
    have hs := row_step xs (0 : Int) xs.length i rfl
    have hln : (xs.take i ++ List.replicate (xs.length - i) (0 : Int)).length = xs.length := by rw [List.length_append, List.length_take, List.length_replicate]; omega
    refine Wr.go ?_
    repeat' ((first | (have ee := True.intro; refine Wr.mk ?_) | ((first | refine br_go ?_ ?_ | refine pick_go ?_ ?_) <;> intro ee f <;> (try simp only [BB] at f) <;> (try simp only [numOk, verOk] at f))) <;> (try simp (maxSteps := 1000000) (disch := first | omega | (simp only [LN, numOk, verOk, hln, hs] <;> omega) | exact Ck.mk rfl) only [ee, VC, T, Nat.reduceMul, Nat.reduceAdd, Nat.reduceSub, Nat.reduceLT, Nat.reduceEqDiff, Nat.reduceLeDiff, Nat.reduceBEq, reduceCtorEq, Int.reduceToNat, ↓reduceIte, hln, hs]) <;> (try clear ee))
    · refine hN (i + 1) _ (by omega) (by omega) ?_
      (simp (disch := first | omega | (simp only [LN, numOk, verOk] <;> omega) | exact Ck.mk rfl) only [SB, EQ, Nat.reduceMul, Nat.reduceAdd, Nat.reduceSub, Nat.reduceLT, Nat.reduceEqDiff, Nat.reduceLeDiff, Nat.reduceBEq, reduceCtorEq, Int.reduceToNat, ↓reduceIte]; try omega)
    · obtain rfl : i = xs.length := by omega
      exact fin_t [some 512] (⟨rfl, rfl⟩) rfl (by simp [RV, RV2, RVl, RV1, tau, tget, hget, data1, oneOf]) (by simp [RH, RVl, RV1, tau, hget, data1]) (by simp [Taus, hget])
end Go.Pv

/- What functions of the program and of the reference do, in plain values. -/
namespace Go.Pv
open Go.Proofs Go.Mth
set_option linter.unusedSimpArgs false
set_option linter.unusedVariables false
set_option maxHeartbeats 4000000
set_option maxRecDepth 4000

/-! ### laws over slices: how much there is, heads -/
def sumSz (l : List ByteArray) : Int := l.foldr (fun s n => (s.size : Int) + n) 0
theorem sumSz_nil : sumSz [] = 0 := rfl
theorem sumSz_cons (s : ByteArray) (l : List ByteArray) : sumSz (s :: l) = s.size + sumSz l := rfl
theorem sumSz_pos (l : List ByteArray) : 0 ≤ sumSz l := by
  induction l with
  | nil => exact Int.le_refl _
  | cons s l ih => rw [sumSz_cons]; omega
theorem sumSz_mem : ∀ {l : List ByteArray} {s : ByteArray}, s ∈ l → (s.size : Int) ≤ sumSz l
  | x :: l, s, h => by
    rw [sumSz_cons]
    rcases List.mem_cons.1 h with rfl | h
    · have := sumSz_pos l; omega
    · have := sumSz_mem h; omega
theorem sumSz_drop (l : List ByteArray) (i : Nat) (h : i < l.length) : sumSz (l.drop i) = (l.getD i default).size + sumSz (l.drop (i + 1)) := by
  rw [List.drop_eq_getElem_cons h, List.getD_eq_getElem?_getD, List.getElem?_eq_getElem h]; rfl
/-- What is left, if anything is. -/
theorem laws_szStringS (xs : List ByteArray) (n : Int) (hn : 0 ≤ n ∧ n ≤ 1048576) (hx : xs.length ≤ 9223372036854775807) (hs : ∀ s ∈ xs, s.size ≤ 9223372036854775807) : FnV Tryz.prog 21 [.far (xs.map .str), .int .i64 n] (fun r => ∃ m : Int, r = .int .i64 m ∧ (0 ≤ m → m = n - xs.length - sumSz xs) ∧ -1 ≤ m ∧ m ≤ n) := by
  refine fn_v tok (n := 28) (rs := [.tmp 4]) Tryz.func21 (by decide) rfl rfl rfl rfl ?_
  refine Wr.go ?_
  repeat' ((first | (have ee := True.intro; refine Wr.mk ?_) | ((first | refine br_go ?_ ?_ | refine pick_go ?_ ?_) <;> intro ee f <;> (try simp only [BB] at f) <;> (try simp only [numOk, verOk] at f))) <;> (try simp (maxSteps := 1000000) (disch := first | omega | (simp only [LN, numOk, verOk, rfP, rvP, rhP, frP] <;> omega) | exact Ck.mk rfl) only [ee, VC, T, Nat.reduceMul, Nat.reduceAdd, Nat.reduceSub, Nat.reduceLT, Nat.reduceEqDiff, Nat.reduceLeDiff, Nat.reduceBEq, reduceCtorEq, Int.reduceToNat, ↓reduceIte, rfP, rvP, rhP, frP]) <;> (try clear ee))
  · exact ⟨-1, rfl, fun h => by omega, by omega, by omega⟩
  · refine lp_go (fun x : Nat × Int => ⟨28, [(0, .far (xs.map .str)), (1, .int .i64 x.2), (5, .int .i64 x.1)], []⟩) (fun x => x.1 ≤ xs.length ∧ (0 ≤ x.2 ∧ x.2 ≤ n) ∧ n - xs.length - sumSz xs = x.2 - sumSz (xs.drop x.1)) (fun x => xs.length - x.1) (0, n - xs.length) ?_ ⟨Nat.zero_le _, by simp only; omega, rfl⟩ ?_
    · (simp (disch := first | omega | (simp only [LN, numOk, verOk] <;> omega) | exact Ck.mk rfl) only [SB, EQ, Nat.reduceMul, Nat.reduceAdd, Nat.reduceSub, Nat.reduceLT, Nat.reduceEqDiff, Nat.reduceLeDiff, Nat.reduceBEq, reduceCtorEq, Int.reduceToNat, ↓reduceIte]; try omega)
    · rintro ⟨i, m⟩ ⟨h1, h2, h3⟩ N hN
      simp only at h1 h2 h3
      have hd := sumSz_drop xs i
      have hz : i < xs.length → (xs.getD i default).size ≤ 9223372036854775807 := fun h => hs _ (getD_mem _ _ h)
      have hp := sumSz_pos (xs.drop (i + 1))
      refine Wr.go ?_
      repeat' ((first | (have ee := True.intro; refine Wr.mk ?_) | ((first | refine br_go ?_ ?_ | refine pick_go ?_ ?_) <;> intro ee f <;> (try simp only [BB] at f) <;> (try simp only [numOk, verOk] at f))) <;> (try simp (maxSteps := 1000000) (disch := first | omega | (simp only [LN, numOk, verOk, rfP, rvP, rhP, frP] <;> omega) | exact Ck.mk rfl) only [ee, VC, T, Nat.reduceMul, Nat.reduceAdd, Nat.reduceSub, Nat.reduceLT, Nat.reduceEqDiff, Nat.reduceLeDiff, Nat.reduceBEq, reduceCtorEq, Int.reduceToNat, ↓reduceIte, rfP, rvP, rhP, frP]) <;> (try clear ee))
      · exact ⟨-1, rfl, fun h => by omega, by omega, by omega⟩
      · refine hN (i + 1, m - (xs.getD i default).size) _ ⟨by simp only; omega, ⟨by simp only; omega, by simp only; omega⟩, by simp only; have := hd (by omega); omega⟩ (by simp only; omega) ?_
        (simp (disch := first | omega | (simp only [LN, numOk, verOk] <;> omega) | exact Ck.mk rfl) only [SB, EQ, Nat.reduceMul, Nat.reduceAdd, Nat.reduceSub, Nat.reduceLT, Nat.reduceEqDiff, Nat.reduceLeDiff, Nat.reduceBEq, reduceCtorEq, Int.reduceToNat, ↓reduceIte]; try omega)
      · rw [List.drop_eq_nil_of_le (by omega), sumSz_nil] at h3
        exact ⟨m, rfl, fun _ => by omega, by omega, by omega⟩
end Go.Pv

/- What functions of the program and of the reference do, in plain values. -/
namespace Go.Pv
open Go.Proofs Go.Mth
set_option linter.unusedSimpArgs false
set_option linter.unusedVariables false
set_option maxHeartbeats 4000000
set_option maxRecDepth 4000

/-! ### the laws' own functions: marks -/
/-- The decimal figures of a number, ahead of what is there. -/
def digs : Nat → Nat → ByteArray → ByteArray
  | 0, _, o => o
  | d + 1, k, o => if k = 0 then o else digs d (k / 10) (strOf [48 + ((k % 10 : Nat) : Int)] ++ o)
def markT (k : Int) : ByteArray := if k ≤ 0 then ⟨#[109, 48]⟩ else ⟨#[109]⟩ ++ digs 20 k.toNat ⟨#[]⟩
theorem laws_markText (k : Int) (hk : k ≤ 9223372036854775807) : Fn Tryz.prog 97 [.int .i64 k] [] (.str (markT k)) [] := by
  refine fn_x tok (n := 20) (rs := [.tmp 2]) Tryz.func97 (by decide) rfl rfl rfl rfl ?_
  refine Wr.go ?_
  repeat' ((first | (have ee := True.intro; refine Wr.mk ?_) | ((first | refine br_go ?_ ?_ | refine pick_go ?_ ?_) <;> intro ee f <;> (try simp only [BB] at f) <;> (try simp only [numOk, verOk] at f))) <;> (try simp (maxSteps := 1000000) (disch := first | omega | (simp only [LN, numOk, verOk, rfP, rvP, rhP, frP] <;> omega) | exact Ck.mk rfl) only [ee, VC, T, Nat.reduceMul, Nat.reduceAdd, Nat.reduceSub, Nat.reduceLT, Nat.reduceEqDiff, Nat.reduceLeDiff, Nat.reduceBEq, reduceCtorEq, Int.reduceToNat, ↓reduceIte, rfP, rvP, rhP, frP]) <;> (try clear ee))
  · unfold markT; rw [if_pos f]
  · unfold markT
    rw [if_neg (by omega)]
    obtain ⟨n, rfl⟩ := Int.eq_ofNat_of_zero_le (show 0 ≤ k by omega)
    refine lp_go (fun x : Nat × Nat × ByteArray => ⟨20, [(0, .int .i64 x.2.1), (3, .str x.2.2)], []⟩) (fun x => (x.2.1 < 10 ^ x.1 ∧ x.2.1 ≤ n) ∧ x.2.2.size + x.1 ≤ 20 ∧ digs 20 n ⟨#[]⟩ = digs x.1 x.2.1 x.2.2) (fun x => x.2.1) (20, n, ⟨#[]⟩) ?_ ⟨⟨by simp only; omega, Nat.le_refl _⟩, Nat.le_refl _, rfl⟩ ?_
    · (simp (disch := first | omega | (simp only [LN, numOk, verOk] <;> omega) | exact Ck.mk rfl) only [SB, EQ, Nat.reduceMul, Nat.reduceAdd, Nat.reduceSub, Nat.reduceLT, Nat.reduceEqDiff, Nat.reduceLeDiff, Nat.reduceBEq, reduceCtorEq, Int.reduceToNat, ↓reduceIte]; try omega)
    · rintro ⟨d, m, o⟩ ⟨h1, h2, h3⟩ N hN
      simp only at h1 h2 h3
      have e1 : (m : Int).tmod 10 = ((m % 10 : Nat) : Int) := by rw [Int.tmod_eq_emod_of_nonneg (by omega)]; omega
      have e2 : (m : Int).tdiv 10 = ((m / 10 : Nat) : Int) := by rw [Int.tdiv_eq_ediv_of_nonneg (by omega)]; omega
      have e3 : (48 + ((m % 10 : Nat) : Int)) % 256 = 48 + ((m % 10 : Nat) : Int) := by omega
      have e4 : ∀ z : Int, strP [.int .u8 z] = strOf [z] := fun z => rfl
      have e5 : (∀ z ∈ [PV.int .u8 (48 + ((m % 10 : Nat) : Int))], isByte z) = True := eq_true fun z hz => by rw [List.mem_singleton.1 hz]; exact ⟨by omega, by omega⟩
      have hz := strOf_size [48 + ((m % 10 : Nat) : Int)]
      have hm : 0 < m → ∃ e, d = e + 1 := fun h => by
        cases d with
        | zero => simp at h1; omega
        | succ e => exact ⟨e, rfl⟩
      refine Wr.go ?_
      repeat' ((first | (have ee := True.intro; refine Wr.mk ?_) | ((first | refine br_go ?_ ?_ | refine pick_go ?_ ?_) <;> intro ee f <;> (try simp only [BB] at f) <;> (try simp only [numOk, verOk] at f))) <;> (try simp (maxSteps := 1000000) (disch := first | omega | (simp only [LN, numOk, verOk, rfP, rvP, rhP, frP, e1, e2, e3, e4, e5, hz] <;> omega) | exact Ck.mk rfl) only [ee, VC, T, Nat.reduceMul, Nat.reduceAdd, Nat.reduceSub, Nat.reduceLT, Nat.reduceEqDiff, Nat.reduceLeDiff, Nat.reduceBEq, reduceCtorEq, Int.reduceToNat, ↓reduceIte, rfP, rvP, rhP, frP, e1, e2, e3, e4, e5, hz]) <;> (try clear ee))
      · obtain ⟨e, rfl⟩ := hm (by omega)
        refine hN (e, m / 10, strOf [48 + ((m % 10 : Nat) : Int)] ++ o) _ ⟨⟨by simp only; rw [Nat.pow_succ] at h1; omega, by simp only; omega⟩, by simp only [ByteArray.size_append]; rw [hz, List.length_singleton]; omega, ?_⟩ (by simp only; omega) ?_
        · rw [h3]
          show (if m = 0 then o else _) = _
          rw [if_neg (by omega)]
        · (simp (disch := first | omega | (simp only [LN, numOk, verOk] <;> omega) | exact Ck.mk rfl) only [SB, EQ, Nat.reduceMul, Nat.reduceAdd, Nat.reduceSub, Nat.reduceLT, Nat.reduceEqDiff, Nat.reduceLeDiff, Nat.reduceBEq, reduceCtorEq, Int.reduceToNat, ↓reduceIte]; try omega)
      · obtain rfl : m = 0 := by omega
        rw [h3]
        cases d <;> rfl
theorem mark_step1 (xs : List Int) (k : Int) (i : Nat) (hi : i < xs.length) : (seqL i k ++ xs.drop i).set i (k + i) = seqL (i + 1) k ++ xs.drop (i + 1) := by
  have := mark_step (fun x => x) xs k i hi
  simpa using this
theorem laws_markIntS (xs : List Int) (k : Int) (hx : xs.length ≤ 1073741824) (hk : 0 ≤ k ∧ k ≤ 1099511627776) (t : TypeId) : FnE Tryz.prog 52 [.row 0 xs.length, .int .i64 k] [(0, .row ⟨1, t⟩ (xs.map (.int .i64)))] (fun r m => r = .int .i64 (k + xs.length) ∧ m = [(0, .row ⟨1, t⟩ ((seqL xs.length k).map (.int .i64)))]) := by
  refine fn_e tok (n := 19) (rs := [.tmp 4]) Tryz.func52 (by decide) rfl rfl rfl rfl (low_of rfl) ?_
  refine Wr.go ?_
  repeat' ((first | (have ee := True.intro; refine Wr.mk ?_) | ((first | refine br_go ?_ ?_ | refine pick_go ?_ ?_) <;> intro ee f <;> (try simp only [BB] at f) <;> (try simp only [numOk, verOk] at f))) <;> (try simp (maxSteps := 1000000) (disch := first | omega | (simp only [LN, numOk, verOk, rfP, rvP, rhP, frP] <;> omega) | exact Ck.mk rfl) only [ee, VC, T, Nat.reduceMul, Nat.reduceAdd, Nat.reduceSub, Nat.reduceLT, Nat.reduceEqDiff, Nat.reduceLeDiff, Nat.reduceBEq, reduceCtorEq, Int.reduceToNat, ↓reduceIte, rfP, rvP, rhP, frP]) <;> (try clear ee))
  refine lp_go (fun i : Nat => ⟨19, [(0, .row 0 xs.length), (1, .int .i64 (k + i)), (5, .int .i64 i)], [(0, .row ⟨1, t⟩ ((seqL i k ++ xs.drop i).map (.int .i64)))]⟩) (fun i => i ≤ xs.length) (fun i => xs.length - i) 0 ?_ (Nat.zero_le _) ?_
  · (simp (disch := first | omega | (simp only [LN, numOk, verOk] <;> omega) | exact Ck.mk rfl) only [SB, EQ, Nat.reduceMul, Nat.reduceAdd, Nat.reduceSub, Nat.reduceLT, Nat.reduceEqDiff, Nat.reduceLeDiff, Nat.reduceBEq, reduceCtorEq, Int.reduceToNat, ↓reduceIte]; try omega)
    simp [seqL]
  · intro i hi N hN
    have hln : (seqL i k ++ xs.drop i).length = xs.length := by rw [List.length_append, seqL_length, List.length_drop]; omega
    have hm := mark_step1 xs k i
    refine Wr.go ?_
    repeat' ((first | (have ee := True.intro; refine Wr.mk ?_) | ((first | refine br_go ?_ ?_ | refine pick_go ?_ ?_) <;> intro ee f <;> (try simp only [BB] at f) <;> (try simp only [numOk, verOk] at f))) <;> (try simp (maxSteps := 1000000) (disch := first | omega | (simp only [LN, numOk, verOk, rfP, rvP, rhP, frP, hln, hm] <;> omega) | exact Ck.mk rfl) only [ee, VC, T, Nat.reduceMul, Nat.reduceAdd, Nat.reduceSub, Nat.reduceLT, Nat.reduceEqDiff, Nat.reduceLeDiff, Nat.reduceBEq, reduceCtorEq, Int.reduceToNat, ↓reduceIte, rfP, rvP, rhP, frP, hln, hm]) <;> (try clear ee))
    · refine hN (i + 1) _ (by omega) (by omega) ?_
      (simp (disch := first | omega | (simp only [LN, numOk, verOk] <;> omega) | exact Ck.mk rfl) only [SB, EQ, Nat.reduceMul, Nat.reduceAdd, Nat.reduceSub, Nat.reduceLT, Nat.reduceEqDiff, Nat.reduceLeDiff, Nat.reduceBEq, reduceCtorEq, Int.reduceToNat, ↓reduceIte]; try omega)
    · obtain rfl : i = xs.length := by omega
      exact fin_t [] (⟨rfl, rfl⟩) rfl (by simp [RV, RV2, RVl, RV1, tau, tget, hget, data1, oneOf]) (by simp [RH, RVl, RV1, tau, hget, data1]) (by simp [Taus, hget])
theorem laws_markStringS (xs : List ByteArray) (k : Int) (hx : xs.length ≤ 1073741824) (hk : 0 ≤ k ∧ k ≤ 1099511627776) (t : TypeId) : FnE Tryz.prog 51 [.row 0 xs.length, .int .i64 k] [(0, .row ⟨1, t⟩ (xs.map .str))] (fun r m => r = .int .i64 (k + xs.length) ∧ m = [(0, .row ⟨1, t⟩ (((seqL xs.length k).map markT).map .str))]) := by
  refine fn_e tok (n := 20) (rs := [.tmp 4]) Tryz.func51 (by decide) rfl rfl rfl rfl (low_of rfl) ?_
  refine Wr.go ?_
  repeat' ((first | (have ee := True.intro; refine Wr.mk ?_) | ((first | refine br_go ?_ ?_ | refine pick_go ?_ ?_) <;> intro ee f <;> (try simp only [BB] at f) <;> (try simp only [numOk, verOk] at f))) <;> (try simp (maxSteps := 1000000) (disch := first | omega | (simp only [LN, numOk, verOk, rfP, rvP, rhP, frP] <;> omega) | exact Ck.mk rfl) only [ee, VC, T, Nat.reduceMul, Nat.reduceAdd, Nat.reduceSub, Nat.reduceLT, Nat.reduceEqDiff, Nat.reduceLeDiff, Nat.reduceBEq, reduceCtorEq, Int.reduceToNat, ↓reduceIte, rfP, rvP, rhP, frP]) <;> (try clear ee))
  refine lp_go (fun i : Nat => ⟨20, [(0, .row 0 xs.length), (1, .int .i64 (k + i)), (5, .int .i64 i)], [(0, .row ⟨1, t⟩ (((seqL i k).map markT ++ xs.drop i).map .str))]⟩) (fun i => i ≤ xs.length) (fun i => xs.length - i) 0 ?_ (Nat.zero_le _) ?_
  · (simp (disch := first | omega | (simp only [LN, numOk, verOk] <;> omega) | exact Ck.mk rfl) only [SB, EQ, Nat.reduceMul, Nat.reduceAdd, Nat.reduceSub, Nat.reduceLT, Nat.reduceEqDiff, Nat.reduceLeDiff, Nat.reduceBEq, reduceCtorEq, Int.reduceToNat, ↓reduceIte]; try omega)
    simp [seqL]
  · intro i hi N hN
    have hln : ((seqL i k).map markT ++ xs.drop i).length = xs.length := by rw [List.length_append, List.length_map, seqL_length, List.length_drop]; omega
    have hm := mark_step markT xs k i
    refine Wr.go ?_
    repeat' ((first | (have ee := True.intro; refine Wr.mk ?_) | ((first | refine br_go ?_ ?_ | refine pick_go ?_ ?_) <;> intro ee f <;> (try simp only [BB] at f) <;> (try simp only [numOk, verOk] at f)) | (have ee := True.intro; first | refine call_x (laws_markText _ (by omega)) rfl ⟨rfl⟩ ?_)) <;> (try simp (maxSteps := 1000000) (disch := first | omega | (simp only [LN, numOk, verOk, rfP, rvP, rhP, frP, hln, hm] <;> omega) | exact Ck.mk rfl) only [ee, VC, T, Nat.reduceMul, Nat.reduceAdd, Nat.reduceSub, Nat.reduceLT, Nat.reduceEqDiff, Nat.reduceLeDiff, Nat.reduceBEq, reduceCtorEq, Int.reduceToNat, ↓reduceIte, rfP, rvP, rhP, frP, hln, hm]) <;> (try clear ee))
    · refine hN (i + 1) _ (by omega) (by omega) ?_
      (simp (disch := first | omega | (simp only [LN, numOk, verOk] <;> omega) | exact Ck.mk rfl) only [SB, EQ, Nat.reduceMul, Nat.reduceAdd, Nat.reduceSub, Nat.reduceLT, Nat.reduceEqDiff, Nat.reduceLeDiff, Nat.reduceBEq, reduceCtorEq, Int.reduceToNat, ↓reduceIte]; try omega)
    · obtain rfl : i = xs.length := by omega
      exact fin_t [] (⟨rfl, rfl⟩) rfl (by simp [RV, RV2, RVl, RV1, tau, tget, hget, data1, oneOf]) (by simp [RH, RVl, RV1, tau, hget, data1]) (by simp [Taus, hget])
theorem laws_heldIntS (n : Nat) (k : Int) (hx : n ≤ 1073741824) (hk : 0 ≤ k ∧ k ≤ 1099511627776) : Fn Tryz.prog 56 [.far ((seqL n k).map (.int .i64)), .int .i64 k] [] (.int .i64 (k + n)) [] := by
  have hl := seqL_length n k
  refine fn_x tok (n := 21) (rs := [.tmp 4]) Tryz.func56 (by decide) rfl rfl rfl rfl ?_
  refine Wr.go ?_
  repeat' ((first | (have ee := True.intro; refine Wr.mk ?_) | ((first | refine br_go ?_ ?_ | refine pick_go ?_ ?_) <;> intro ee f <;> (try simp only [BB] at f) <;> (try simp only [numOk, verOk] at f))) <;> (try simp (maxSteps := 1000000) (disch := first | omega | (simp only [LN, numOk, verOk, rfP, rvP, rhP, frP, hl] <;> omega) | exact Ck.mk rfl) only [ee, VC, T, Nat.reduceMul, Nat.reduceAdd, Nat.reduceSub, Nat.reduceLT, Nat.reduceEqDiff, Nat.reduceLeDiff, Nat.reduceBEq, reduceCtorEq, Int.reduceToNat, ↓reduceIte, rfP, rvP, rhP, frP, hl]) <;> (try clear ee))
  refine lp_go (fun i : Nat => ⟨21, [(0, .far ((seqL n k).map (.int .i64))), (1, .int .i64 (k + i)), (5, .int .i64 i)], []⟩) (fun i => i ≤ n) (fun i => n - i) 0 ?_ (Nat.zero_le _) ?_
  · (simp (disch := first | omega | (simp only [LN, numOk, verOk] <;> omega) | exact Ck.mk rfl) only [SB, EQ, Nat.reduceMul, Nat.reduceAdd, Nat.reduceSub, Nat.reduceLT, Nat.reduceEqDiff, Nat.reduceLeDiff, Nat.reduceBEq, reduceCtorEq, Int.reduceToNat, ↓reduceIte]; try omega)
  · intro i hi N hN
    have hg : i < n → (seqL n k).getD i default = k + i := fun h => by
      have := seqL_getD (fun x : Int => x) n k i h
      simpa using this
    refine Wr.go ?_
    repeat' ((first | (have ee := True.intro; refine Wr.mk ?_) | ((first | refine br_go ?_ ?_ | refine pick_go ?_ ?_) <;> intro ee f <;> (try simp only [BB] at f) <;> (try simp only [numOk, verOk] at f))) <;> (try simp (maxSteps := 1000000) (disch := first | omega | (simp only [LN, numOk, verOk, rfP, rvP, rhP, frP, hl, hg] <;> omega) | exact Ck.mk rfl) only [ee, VC, T, Nat.reduceMul, Nat.reduceAdd, Nat.reduceSub, Nat.reduceLT, Nat.reduceEqDiff, Nat.reduceLeDiff, Nat.reduceBEq, reduceCtorEq, Int.reduceToNat, ↓reduceIte, rfP, rvP, rhP, frP, hl, hg]) <;> (try clear ee))
    · refine hN (i + 1) _ (by omega) (by omega) ?_
      (simp (disch := first | omega | (simp only [LN, numOk, verOk] <;> omega) | exact Ck.mk rfl) only [SB, EQ, Nat.reduceMul, Nat.reduceAdd, Nat.reduceSub, Nat.reduceLT, Nat.reduceEqDiff, Nat.reduceLeDiff, Nat.reduceBEq, reduceCtorEq, Int.reduceToNat, ↓reduceIte]; try omega)
    · obtain rfl : i = n := by omega
      rfl
theorem laws_heldStringS (n : Nat) (k : Int) (hx : n ≤ 1073741824) (hk : 0 ≤ k ∧ k ≤ 1099511627776) : Fn Tryz.prog 55 [.far (((seqL n k).map markT).map .str), .int .i64 k] [] (.int .i64 (k + n)) [] := by
  have hl := seqL_length n k
  refine fn_x tok (n := 22) (rs := [.tmp 4]) Tryz.func55 (by decide) rfl rfl rfl rfl ?_
  refine Wr.go ?_
  repeat' ((first | (have ee := True.intro; refine Wr.mk ?_) | ((first | refine br_go ?_ ?_ | refine pick_go ?_ ?_) <;> intro ee f <;> (try simp only [BB] at f) <;> (try simp only [numOk, verOk] at f))) <;> (try simp (maxSteps := 1000000) (disch := first | omega | (simp only [LN, numOk, verOk, rfP, rvP, rhP, frP, hl] <;> omega) | exact Ck.mk rfl) only [ee, VC, T, Nat.reduceMul, Nat.reduceAdd, Nat.reduceSub, Nat.reduceLT, Nat.reduceEqDiff, Nat.reduceLeDiff, Nat.reduceBEq, reduceCtorEq, Int.reduceToNat, ↓reduceIte, rfP, rvP, rhP, frP, hl]) <;> (try clear ee))
  refine lp_go (fun i : Nat => ⟨22, [(0, .far (((seqL n k).map markT).map .str)), (1, .int .i64 (k + i)), (5, .int .i64 i)], []⟩) (fun i => i ≤ n) (fun i => n - i) 0 ?_ (Nat.zero_le _) ?_
  · (simp (disch := first | omega | (simp only [LN, numOk, verOk] <;> omega) | exact Ck.mk rfl) only [SB, EQ, Nat.reduceMul, Nat.reduceAdd, Nat.reduceSub, Nat.reduceLT, Nat.reduceEqDiff, Nat.reduceLeDiff, Nat.reduceBEq, reduceCtorEq, Int.reduceToNat, ↓reduceIte]; try omega)
  · intro i hi N hN
    have hg : i < n → ((seqL n k).map markT).getD i default = markT (k + i) := seqL_getD markT n k i
    refine Wr.go ?_
    repeat' ((first | (have ee := True.intro; refine Wr.mk ?_) | ((first | refine br_go ?_ ?_ | refine pick_go ?_ ?_) <;> intro ee f <;> (try simp only [BB] at f) <;> (try simp only [numOk, verOk] at f)) | (have ee := True.intro; first | refine dr_go mixed (id := 4) [([], [0], []), ([], [5], []), ([0, 1], [12, 13], []), ([0, 1, 2], [14], []), ([], [1], []), ([4], [16], []), ([0, 1, 2, 3, 4, 5], [15, 17], [])] rfl rfl rfl ?_ | refine call_x (laws_markText _ (by omega)) rfl ⟨rfl⟩ ?_)) <;> (try simp (maxSteps := 1000000) (disch := first | omega | (simp only [LN, numOk, verOk, rfP, rvP, rhP, frP, hl, hg] <;> omega) | exact Ck.mk rfl) only [ee, VC, T, Nat.reduceMul, Nat.reduceAdd, Nat.reduceSub, Nat.reduceLT, Nat.reduceEqDiff, Nat.reduceLeDiff, Nat.reduceBEq, reduceCtorEq, Int.reduceToNat, ↓reduceIte, rfP, rvP, rhP, frP, hl, hg]) <;> (try clear ee))
    · refine hN (i + 1) _ (by omega) (by omega) ?_
      (simp (disch := first | omega | (simp only [LN, numOk, verOk] <;> omega) | exact Ck.mk rfl) only [SB, EQ, Nat.reduceMul, Nat.reduceAdd, Nat.reduceSub, Nat.reduceLT, Nat.reduceEqDiff, Nat.reduceLeDiff, Nat.reduceBEq, reduceCtorEq, Int.reduceToNat, ↓reduceIte]; try omega)
    · obtain rfl : i = n := by omega
      rfl
end Go.Pv

/- What functions of the program and of the reference do, in plain values. -/
namespace Go.Pv
open Go.Proofs Go.Mth
set_option linter.unusedSimpArgs false
set_option linter.unusedVariables false
set_option maxHeartbeats 4000000
set_option maxRecDepth 4000

/-! ### the laws' own functions: nodes, entries, disks -/
theorem laws_toNode (a : Int) (b : ByteArray) (c : Int) : Fn Tryz.prog 74 [.agg [.int .i64 a, .str b, .int .i64 c]] [] (.agg [.int .i64 a, .str b, .int .i64 c]) [] := by
  refine fn_x tok (n := 14) (rs := [.cell 2 93]) Tryz.func74 (by decide) rfl rfl rfl rfl ?_
  refine Wr.go ?_
  repeat' ((first | (have ee := True.intro; refine Wr.mk ?_) | ((first | refine br_go ?_ ?_ | refine pick_go ?_ ?_) <;> intro ee f <;> (try simp only [BB] at f) <;> (try simp only [numOk, verOk] at f))) <;> (try simp (maxSteps := 1000000) (disch := first | omega | (simp only [LN, numOk, verOk, rfP, rvP, rhP, frP] <;> omega) | exact Ck.mk rfl) only [ee, VC, T, Nat.reduceMul, Nat.reduceAdd, Nat.reduceSub, Nat.reduceLT, Nat.reduceEqDiff, Nat.reduceLeDiff, Nat.reduceBEq, reduceCtorEq, Int.reduceToNat, ↓reduceIte, rfP, rvP, rhP, frP]) <;> (try clear ee))
theorem laws_toEntry (a : ByteArray) (b : Int) : Fn Tryz.prog 75 [.agg [.str a, .int .i64 b]] [] (.agg [.str a, .int .i64 b]) [] := by
  refine fn_x tok (n := 11) (rs := [.cell 2 101]) Tryz.func75 (by decide) rfl rfl rfl rfl ?_
  refine Wr.go ?_
  repeat' ((first | (have ee := True.intro; refine Wr.mk ?_) | ((first | refine br_go ?_ ?_ | refine pick_go ?_ ?_) <;> intro ee f <;> (try simp only [BB] at f) <;> (try simp only [numOk, verOk] at f))) <;> (try simp (maxSteps := 1000000) (disch := first | omega | (simp only [LN, numOk, verOk, rfP, rvP, rhP, frP] <;> omega) | exact Ck.mk rfl) only [ee, VC, T, Nat.reduceMul, Nat.reduceAdd, Nat.reduceSub, Nat.reduceLT, Nat.reduceEqDiff, Nat.reduceLeDiff, Nat.reduceBEq, reduceCtorEq, Int.reduceToNat, ↓reduceIte, rfP, rvP, rhP, frP]) <;> (try clear ee))
theorem laws_eqNode (x y : Nd) : Fn Tryz.prog 95 [ndP x, ndP y] [] (.bool (decide (x = y))) [] := by
  obtain ⟨a, b, c⟩ := x
  obtain ⟨d, e, g⟩ := y
  unfold ndP
  refine fn_x tok (n := 20) (rs := [.tmp 4]) Tryz.func95 (by decide) rfl rfl rfl rfl ?_
  refine Wr.go ?_
  repeat' ((first | (have ee := True.intro; refine Wr.mk ?_) | ((first | refine br_go ?_ ?_ | refine pick_go ?_ ?_) <;> intro ee f <;> (try simp only [BB] at f) <;> (try simp only [numOk, verOk] at f))) <;> (try simp (maxSteps := 1000000) (disch := first | omega | (simp only [LN, numOk, verOk, rfP, rvP, rhP, frP] <;> omega) | exact Ck.mk rfl) only [ee, VC, T, Nat.reduceMul, Nat.reduceAdd, Nat.reduceSub, Nat.reduceLT, Nat.reduceEqDiff, Nat.reduceLeDiff, Nat.reduceBEq, reduceCtorEq, Int.reduceToNat, ↓reduceIte, rfP, rvP, rhP, frP]) <;> (try clear ee))
  all_goals simp [*]
theorem laws_eqEntry (x y : Et) : Fn Tryz.prog 96 [enP x, enP y] [] (.bool (decide (x = y))) [] := by
  obtain ⟨a, b⟩ := x
  obtain ⟨c, d⟩ := y
  unfold enP
  refine fn_x tok (n := 15) (rs := [.tmp 4]) Tryz.func96 (by decide) rfl rfl rfl rfl ?_
  refine Wr.go ?_
  repeat' ((first | (have ee := True.intro; refine Wr.mk ?_) | ((first | refine br_go ?_ ?_ | refine pick_go ?_ ?_) <;> intro ee f <;> (try simp only [BB] at f) <;> (try simp only [numOk, verOk] at f))) <;> (try simp (maxSteps := 1000000) (disch := first | omega | (simp only [LN, numOk, verOk, rfP, rvP, rhP, frP] <;> omega) | exact Ck.mk rfl) only [ee, VC, T, Nat.reduceMul, Nat.reduceAdd, Nat.reduceSub, Nat.reduceLT, Nat.reduceEqDiff, Nat.reduceLeDiff, Nat.reduceBEq, reduceCtorEq, Int.reduceToNat, ↓reduceIte, rfP, rvP, rhP, frP]) <;> (try clear ee))
  all_goals simp [*]
theorem laws_toNodeS_R (ps : List Nd) (hx : ps.length ≤ 1073741824) : FnE Tryz.prog 32 [.far (ps.map ndP)] [] (fun r m => r = .row 64 ps.length ∧ m = [(64, .row ⟨3, 0⟩ (ps.map ndP))]) := by
  refine fn_e tok (n := 23) (rs := [.tmp 2]) Tryz.func32 (by decide) rfl rfl rfl rfl (low_of rfl) ?_
  refine Wr.go ?_
  repeat' ((first | (have ee := True.intro; refine Wr.mk ?_) | ((first | refine br_go ?_ ?_ | refine pick_go ?_ ?_) <;> intro ee f <;> (try simp only [BB] at f) <;> (try simp only [numOk, verOk] at f))) <;> (try simp (maxSteps := 1000000) (disch := first | omega | (simp only [LN, numOk, verOk, rfP, rvP, rhP, frP] <;> omega) | exact Ck.mk rfl) only [ee, VC, T, Nat.reduceMul, Nat.reduceAdd, Nat.reduceSub, Nat.reduceLT, Nat.reduceEqDiff, Nat.reduceLeDiff, Nat.reduceBEq, reduceCtorEq, Int.reduceToNat, ↓reduceIte, rfP, rvP, rhP, frP]) <;> (try clear ee))
  refine lp_go (fun i : Nat => ⟨23, [(0, .far (ps.map ndP)), (3, .row 512 ps.length), (4, .int .i64 i)], [(512, .row ⟨3, 0⟩ ((ps.take i ++ List.replicate (ps.length - i) ((0, ⟨#[]⟩, 0) : Nd)).map ndP))]⟩) (fun i => i ≤ ps.length) (fun i => ps.length - i) 0 ?_ (Nat.zero_le _) ?_
  · (simp (disch := first | omega | (simp only [LN, numOk, verOk] <;> omega) | exact Ck.mk rfl) only [SB, EQ, Nat.reduceMul, Nat.reduceAdd, Nat.reduceSub, Nat.reduceLT, Nat.reduceEqDiff, Nat.reduceLeDiff, Nat.reduceBEq, reduceCtorEq, Int.reduceToNat, ↓reduceIte]; try omega)
    simp [ndP]
    exact .inr rfl
  · intro i hi N hN
    have hs := row_step ps ((0, ⟨#[]⟩, 0) : Nd) ps.length i rfl
    have hln : (ps.take i ++ List.replicate (ps.length - i) ((0, ⟨#[]⟩, 0) : Nd)).length = ps.length := by rw [List.length_append, List.length_take, List.length_replicate]; omega
    have hg : i < ps.length → (ps.map ndP).getD i .junk = .agg [.int .i64 (ps.getD i default).1, .str (ps.getD i default).2.1, .int .i64 (ps.getD i default).2.2] := fun h => by
      rw [List.getD_eq_getElem?_getD, List.getElem?_map, List.getElem?_eq_getElem h, List.getD_eq_getElem?_getD, List.getElem?_eq_getElem h]; rfl
    have hu : i < ps.length → ∀ x y z, upd (((ps.take i ++ List.replicate (ps.length - i) ((0, ⟨#[]⟩, 0) : Nd)).map ndP).getD i .junk) 0 [x, y, z] = .agg [x, y, z] := fun h x y z => by
      rw [List.getD_eq_getElem?_getD, List.getElem?_map, List.getElem?_eq_getElem (by omega)]; rfl
    have hset : i < ps.length → ((ps.take i ++ List.replicate (ps.length - i) ((0, ⟨#[]⟩, 0) : Nd)).map ndP).set i (.agg [.int .i64 (ps.getD i default).1, .str (ps.getD i default).2.1, .int .i64 (ps.getD i default).2.2]) = (ps.take (i + 1) ++ List.replicate (ps.length - (i + 1)) ((0, ⟨#[]⟩, 0) : Nd)).map ndP := fun h => by
      rw [← hs h, List.map_set]; rfl
    have hu2 : ∀ (p : Nd) x y z, upd (ndP p) 0 [x, y, z] = .agg [x, y, z] := fun _ => by intros; rfl
    refine Wr.go ?_
    repeat' ((first | (have ee := True.intro; refine Wr.mk ?_) | ((first | refine br_go ?_ ?_ | refine pick_go ?_ ?_) <;> intro ee f <;> (try simp only [BB] at f) <;> (try simp only [numOk, verOk] at f)) | (have ee := True.intro; first | refine call_x (laws_toNode _ _ _) rfl ⟨rfl⟩ ?_)) <;> (try simp (maxSteps := 1000000) (disch := first | omega | (simp only [LN, numOk, verOk, rfP, rvP, rhP, frP, hln, hg, hu, hu2, hset] <;> omega) | exact Ck.mk rfl) only [ee, VC, T, Nat.reduceMul, Nat.reduceAdd, Nat.reduceSub, Nat.reduceLT, Nat.reduceEqDiff, Nat.reduceLeDiff, Nat.reduceBEq, reduceCtorEq, Int.reduceToNat, ↓reduceIte, rfP, rvP, rhP, frP, hln, hg, hu, hu2, hset]) <;> (try clear ee))
    · refine hN (i + 1) _ (by omega) (by omega) ?_
      (simp (disch := first | omega | (simp only [LN, numOk, verOk] <;> omega) | exact Ck.mk rfl) only [SB, EQ, Nat.reduceMul, Nat.reduceAdd, Nat.reduceSub, Nat.reduceLT, Nat.reduceEqDiff, Nat.reduceLeDiff, Nat.reduceBEq, reduceCtorEq, Int.reduceToNat, ↓reduceIte]; try omega)
    · obtain rfl : i = ps.length := by omega
      exact fin_t [some 512] (⟨rfl, rfl⟩) rfl (by simp [RV, RV2, RVl, RV1, tau, tget, hget, data1, oneOf]) (by simp [RH, RVl, RV1, tau, hget, data1]) (by simp [Taus, hget])
theorem laws_toEntryS_R (ps : List Et) (hx : ps.length ≤ 1073741824) : FnE Tryz.prog 33 [.far (ps.map enP)] [] (fun r m => r = .row 64 ps.length ∧ m = [(64, .row ⟨2, 0⟩ (ps.map enP))]) := by
  refine fn_e tok (n := 23) (rs := [.tmp 2]) Tryz.func33 (by decide) rfl rfl rfl rfl (low_of rfl) ?_
  refine Wr.go ?_
  repeat' ((first | (have ee := True.intro; refine Wr.mk ?_) | ((first | refine br_go ?_ ?_ | refine pick_go ?_ ?_) <;> intro ee f <;> (try simp only [BB] at f) <;> (try simp only [numOk, verOk] at f))) <;> (try simp (maxSteps := 1000000) (disch := first | omega | (simp only [LN, numOk, verOk, rfP, rvP, rhP, frP] <;> omega) | exact Ck.mk rfl) only [ee, VC, T, Nat.reduceMul, Nat.reduceAdd, Nat.reduceSub, Nat.reduceLT, Nat.reduceEqDiff, Nat.reduceLeDiff, Nat.reduceBEq, reduceCtorEq, Int.reduceToNat, ↓reduceIte, rfP, rvP, rhP, frP]) <;> (try clear ee))
  refine lp_go (fun i : Nat => ⟨23, [(0, .far (ps.map enP)), (3, .row 512 ps.length), (4, .int .i64 i)], [(512, .row ⟨2, 0⟩ ((ps.take i ++ List.replicate (ps.length - i) ((⟨#[]⟩, 0) : Et)).map enP))]⟩) (fun i => i ≤ ps.length) (fun i => ps.length - i) 0 ?_ (Nat.zero_le _) ?_
  · (simp (disch := first | omega | (simp only [LN, numOk, verOk] <;> omega) | exact Ck.mk rfl) only [SB, EQ, Nat.reduceMul, Nat.reduceAdd, Nat.reduceSub, Nat.reduceLT, Nat.reduceEqDiff, Nat.reduceLeDiff, Nat.reduceBEq, reduceCtorEq, Int.reduceToNat, ↓reduceIte]; try omega)
    simp [enP]
    exact .inr rfl
  · intro i hi N hN
    have hs := row_step ps ((⟨#[]⟩, 0) : Et) ps.length i rfl
    have hln : (ps.take i ++ List.replicate (ps.length - i) ((⟨#[]⟩, 0) : Et)).length = ps.length := by rw [List.length_append, List.length_take, List.length_replicate]; omega
    have hg : i < ps.length → (ps.map enP).getD i .junk = .agg [.str (ps.getD i default).1, .int .i64 (ps.getD i default).2] := fun h => by
      rw [List.getD_eq_getElem?_getD, List.getElem?_map, List.getElem?_eq_getElem h, List.getD_eq_getElem?_getD, List.getElem?_eq_getElem h]; rfl
    have hu : i < ps.length → ∀ x y, upd (((ps.take i ++ List.replicate (ps.length - i) ((⟨#[]⟩, 0) : Et)).map enP).getD i .junk) 0 [x, y] = .agg [x, y] := fun h x y => by
      rw [List.getD_eq_getElem?_getD, List.getElem?_map, List.getElem?_eq_getElem (by omega)]; rfl
    have hset : i < ps.length → ((ps.take i ++ List.replicate (ps.length - i) ((⟨#[]⟩, 0) : Et)).map enP).set i (.agg [.str (ps.getD i default).1, .int .i64 (ps.getD i default).2]) = (ps.take (i + 1) ++ List.replicate (ps.length - (i + 1)) ((⟨#[]⟩, 0) : Et)).map enP := fun h => by
      rw [← hs h, List.map_set]; rfl
    have hu2 : ∀ (p : Et) x y, upd (enP p) 0 [x, y] = .agg [x, y] := fun _ => by intros; rfl
    refine Wr.go ?_
    repeat' ((first | (have ee := True.intro; refine Wr.mk ?_) | ((first | refine br_go ?_ ?_ | refine pick_go ?_ ?_) <;> intro ee f <;> (try simp only [BB] at f) <;> (try simp only [numOk, verOk] at f)) | (have ee := True.intro; first | refine call_x (laws_toEntry _ _) rfl ⟨rfl⟩ ?_)) <;> (try simp (maxSteps := 1000000) (disch := first | omega | (simp only [LN, numOk, verOk, rfP, rvP, rhP, frP, hln, hg, hu, hu2, hset] <;> omega) | exact Ck.mk rfl) only [ee, VC, T, Nat.reduceMul, Nat.reduceAdd, Nat.reduceSub, Nat.reduceLT, Nat.reduceEqDiff, Nat.reduceLeDiff, Nat.reduceBEq, reduceCtorEq, Int.reduceToNat, ↓reduceIte, rfP, rvP, rhP, frP, hln, hg, hu, hu2, hset]) <;> (try clear ee))
    · refine hN (i + 1) _ (by omega) (by omega) ?_
      (simp (disch := first | omega | (simp only [LN, numOk, verOk] <;> omega) | exact Ck.mk rfl) only [SB, EQ, Nat.reduceMul, Nat.reduceAdd, Nat.reduceSub, Nat.reduceLT, Nat.reduceEqDiff, Nat.reduceLeDiff, Nat.reduceBEq, reduceCtorEq, Int.reduceToNat, ↓reduceIte]; try omega)
    · obtain rfl : i = ps.length := by omega
      exact fin_t [some 512] (⟨rfl, rfl⟩) rfl (by simp [RV, RV2, RVl, RV1, tau, tget, hget, data1, oneOf]) (by simp [RH, RVl, RV1, tau, hget, data1]) (by simp [Taus, hget])
theorem laws_eqNodeS (xs ys : List Nd) (hx : xs.length ≤ 4611686018427387904) : Fn Tryz.prog 45 [.far (xs.map ndP), .far (ys.map ndP)] [] (.bool (decide (xs = ys))) [] := by
  refine fn_x tok (n := 27) (rs := [.tmp 4]) Tryz.func45 (by decide) rfl rfl rfl rfl ?_
  refine Wr.go ?_
  repeat' ((first | (have ee := True.intro; refine Wr.mk ?_) | ((first | refine br_go ?_ ?_ | refine pick_go ?_ ?_) <;> intro ee f <;> (try simp only [BB] at f) <;> (try simp only [numOk, verOk] at f))) <;> (try simp (maxSteps := 1000000) (disch := first | omega | (simp only [LN, numOk, verOk, rfP, rvP, rhP, frP] <;> omega) | exact Ck.mk rfl) only [ee, VC, T, Nat.reduceMul, Nat.reduceAdd, Nat.reduceSub, Nat.reduceLT, Nat.reduceEqDiff, Nat.reduceLeDiff, Nat.reduceBEq, reduceCtorEq, Int.reduceToNat, ↓reduceIte, rfP, rvP, rhP, frP]) <;> (try clear ee))
  · have hl : xs.length = ys.length := by omega
    refine lp_go (fun i : Nat => ⟨27, [(0, .far (xs.map ndP)), (1, .far (ys.map ndP)), (5, .int .i64 i)], []⟩) (fun i => i ≤ xs.length ∧ xs.take i = ys.take i) (fun i => xs.length - i) 0 ?_ ⟨Nat.zero_le _, rfl⟩ ?_
    · (simp (disch := first | omega | (simp only [LN, numOk, verOk] <;> omega) | exact Ck.mk rfl) only [SB, EQ, Nat.reduceMul, Nat.reduceAdd, Nat.reduceSub, Nat.reduceLT, Nat.reduceEqDiff, Nat.reduceLeDiff, Nat.reduceBEq, reduceCtorEq, Int.reduceToNat, ↓reduceIte]; try omega)
    · rintro i ⟨h1, h2⟩ N hN
      have hg : ∀ zs : List Nd, i < zs.length → (zs.map ndP).getD i .junk = .agg [.int .i64 (zs.getD i default).1, .str (zs.getD i default).2.1, .int .i64 (zs.getD i default).2.2] := fun zs h => by
        rw [List.getD_eq_getElem?_getD, List.getElem?_map, List.getElem?_eq_getElem h, List.getD_eq_getElem?_getD, List.getElem?_eq_getElem h]; rfl
      refine Wr.go ?_
      repeat' ((first | (have ee := True.intro; refine Wr.mk ?_) | ((first | refine br_go ?_ ?_ | refine pick_go ?_ ?_) <;> intro ee f <;> (try simp only [BB] at f) <;> (try simp only [numOk, verOk] at f)) | (have ee := True.intro; first | refine dr_go mixed (id := 6) [([], [0], []), ([], [5], []), ([0, 1], [17, 18], []), ([0, 1, 2], [19], []), ([], [1], []), ([], [5], []), ([4, 5], [21, 22], []), ([4, 5, 6], [23], []), ([0, 1, 2, 3, 4, 5, 6, 7], [20, 24], []), ([0, 1, 2, 3, 4, 5, 6, 7, 8], [25], [])] rfl rfl rfl ?_ | refine call_x (laws_eqNode (xs.getD i default) (ys.getD i default)) rfl ⟨rfl⟩ ?_)) <;> (try simp (maxSteps := 1000000) (disch := first | omega | (simp only [LN, numOk, verOk, rfP, rvP, rhP, frP, hg] <;> omega) | exact Ck.mk rfl) only [ee, VC, T, Nat.reduceMul, Nat.reduceAdd, Nat.reduceSub, Nat.reduceLT, Nat.reduceEqDiff, Nat.reduceLeDiff, Nat.reduceBEq, reduceCtorEq, Int.reduceToNat, ↓reduceIte, rfP, rvP, rhP, frP, hg]) <;> (try clear ee))
      · refine hN (i + 1) _ ⟨by omega, eq_step xs ys i hl (by omega) h2 f⟩ (by omega) ?_
        (simp (disch := first | omega | (simp only [LN, numOk, verOk] <;> omega) | exact Ck.mk rfl) only [SB, EQ, Nat.reduceMul, Nat.reduceAdd, Nat.reduceSub, Nat.reduceLT, Nat.reduceEqDiff, Nat.reduceLeDiff, Nat.reduceBEq, reduceCtorEq, Int.reduceToNat, ↓reduceIte]; try omega)
      · rw [decide_eq_false fun h => by subst h; simp at f]
      · rw [List.take_of_length_le (by omega), List.take_of_length_le (by omega)] at h2
        rw [decide_eq_true h2]
  · rw [decide_eq_false fun h => f (by rw [h])]
theorem laws_eqEntryS (xs ys : List Et) (hx : xs.length ≤ 4611686018427387904) : Fn Tryz.prog 46 [.far (xs.map enP), .far (ys.map enP)] [] (.bool (decide (xs = ys))) [] := by
  refine fn_x tok (n := 27) (rs := [.tmp 4]) Tryz.func46 (by decide) rfl rfl rfl rfl ?_
  refine Wr.go ?_
  repeat' ((first | (have ee := True.intro; refine Wr.mk ?_) | ((first | refine br_go ?_ ?_ | refine pick_go ?_ ?_) <;> intro ee f <;> (try simp only [BB] at f) <;> (try simp only [numOk, verOk] at f))) <;> (try simp (maxSteps := 1000000) (disch := first | omega | (simp only [LN, numOk, verOk, rfP, rvP, rhP, frP] <;> omega) | exact Ck.mk rfl) only [ee, VC, T, Nat.reduceMul, Nat.reduceAdd, Nat.reduceSub, Nat.reduceLT, Nat.reduceEqDiff, Nat.reduceLeDiff, Nat.reduceBEq, reduceCtorEq, Int.reduceToNat, ↓reduceIte, rfP, rvP, rhP, frP]) <;> (try clear ee))
  · have hl : xs.length = ys.length := by omega
    refine lp_go (fun i : Nat => ⟨27, [(0, .far (xs.map enP)), (1, .far (ys.map enP)), (5, .int .i64 i)], []⟩) (fun i => i ≤ xs.length ∧ xs.take i = ys.take i) (fun i => xs.length - i) 0 ?_ ⟨Nat.zero_le _, rfl⟩ ?_
    · (simp (disch := first | omega | (simp only [LN, numOk, verOk] <;> omega) | exact Ck.mk rfl) only [SB, EQ, Nat.reduceMul, Nat.reduceAdd, Nat.reduceSub, Nat.reduceLT, Nat.reduceEqDiff, Nat.reduceLeDiff, Nat.reduceBEq, reduceCtorEq, Int.reduceToNat, ↓reduceIte]; try omega)
    · rintro i ⟨h1, h2⟩ N hN
      have hg : ∀ zs : List Et, i < zs.length → (zs.map enP).getD i .junk = .agg [.str (zs.getD i default).1, .int .i64 (zs.getD i default).2] := fun zs h => by
        rw [List.getD_eq_getElem?_getD, List.getElem?_map, List.getElem?_eq_getElem h, List.getD_eq_getElem?_getD, List.getElem?_eq_getElem h]; rfl
      refine Wr.go ?_
      repeat' ((first | (have ee := True.intro; refine Wr.mk ?_) | ((first | refine br_go ?_ ?_ | refine pick_go ?_ ?_) <;> intro ee f <;> (try simp only [BB] at f) <;> (try simp only [numOk, verOk] at f)) | (have ee := True.intro; first | refine dr_go mixed (id := 6) [([], [0], []), ([], [5], []), ([0, 1], [17, 18], []), ([0, 1, 2], [19], []), ([], [1], []), ([], [5], []), ([4, 5], [21, 22], []), ([4, 5, 6], [23], []), ([0, 1, 2, 3, 4, 5, 6, 7], [20, 24], []), ([0, 1, 2, 3, 4, 5, 6, 7, 8], [25], [])] rfl rfl rfl ?_ | refine call_x (laws_eqEntry (xs.getD i default) (ys.getD i default)) rfl ⟨rfl⟩ ?_)) <;> (try simp (maxSteps := 1000000) (disch := first | omega | (simp only [LN, numOk, verOk, rfP, rvP, rhP, frP, hg] <;> omega) | exact Ck.mk rfl) only [ee, VC, T, Nat.reduceMul, Nat.reduceAdd, Nat.reduceSub, Nat.reduceLT, Nat.reduceEqDiff, Nat.reduceLeDiff, Nat.reduceBEq, reduceCtorEq, Int.reduceToNat, ↓reduceIte, rfP, rvP, rhP, frP, hg]) <;> (try clear ee))
      · refine hN (i + 1) _ ⟨by omega, eq_step xs ys i hl (by omega) h2 f⟩ (by omega) ?_
        (simp (disch := first | omega | (simp only [LN, numOk, verOk] <;> omega) | exact Ck.mk rfl) only [SB, EQ, Nat.reduceMul, Nat.reduceAdd, Nat.reduceSub, Nat.reduceLT, Nat.reduceEqDiff, Nat.reduceLeDiff, Nat.reduceBEq, reduceCtorEq, Int.reduceToNat, ↓reduceIte]; try omega)
      · rw [decide_eq_false fun h => by subst h; simp at f]
      · rw [List.take_of_length_le (by omega), List.take_of_length_le (by omega)] at h2
        rw [decide_eq_true h2]
  · rw [decide_eq_false fun h => f (by rw [h])]
/-! ### how large disks are -/
def sumF {α : Type} (f : α → Int) (l : List α) : Int := l.foldr (fun s n => f s + n) 0
theorem sumF_cons {α : Type} (f : α → Int) (s : α) (l : List α) : sumF f (s :: l) = f s + sumF f l := rfl
theorem sumF_pos {α : Type} (f : α → Int) (hf : ∀ x, 0 ≤ f x) (l : List α) : 0 ≤ sumF f l := by
  induction l with
  | nil => exact Int.le_refl _
  | cons s l ih => rw [sumF_cons]; have := hf s; omega
theorem sumF_mem {α : Type} (f : α → Int) (hf : ∀ x, 0 ≤ f x) : ∀ {l : List α} {s : α}, s ∈ l → f s ≤ sumF f l
  | x :: l, s, h => by
    rw [sumF_cons]
    rcases List.mem_cons.1 h with rfl | h
    · have := sumF_pos f hf l; omega
    · have := sumF_mem f hf h; have := hf x; omega
theorem sumF_drop {α : Type} [Inhabited α] (f : α → Int) (l : List α) (i : Nat) (h : i < l.length) : sumF f (l.drop i) = f (l.getD i default) + sumF f (l.drop (i + 1)) := by
  rw [List.drop_eq_getElem_cons h, List.getD_eq_getElem?_getD, List.getElem?_eq_getElem h]; rfl
def ndZ (x : Nd) : Int := x.2.1.size
def enZ (x : Et) : Int := x.1.size
theorem ndZ_pos (x : Nd) : 0 ≤ ndZ x := by unfold ndZ; omega
theorem enZ_pos (x : Et) : 0 ≤ enZ x := by unfold enZ; omega
theorem laws_szNode (a : Int) (b : ByteArray) (c n : Int) (hn : 0 ≤ n ∧ n ≤ 1048576) (hb : b.size ≤ 9223372036854775807) : Fn Tryz.prog 57 [.agg [.int .i64 a, .str b, .int .i64 c], .int .i64 n] [] (.int .i64 (if n - b.size < 0 then -1 else n - b.size)) [] := by
  refine fn_x tok (n := 13) (rs := [.tmp 4]) Tryz.func57 (by decide) rfl rfl rfl rfl ?_
  refine Wr.go ?_
  repeat' ((first | (have ee := True.intro; refine Wr.mk ?_) | ((first | refine br_go ?_ ?_ | refine pick_go ?_ ?_) <;> intro ee f <;> (try simp only [BB] at f) <;> (try simp only [numOk, verOk] at f))) <;> (try simp (maxSteps := 1000000) (disch := first | omega | (simp only [LN, numOk, verOk, rfP, rvP, rhP, frP] <;> omega) | exact Ck.mk rfl) only [ee, VC, T, Nat.reduceMul, Nat.reduceAdd, Nat.reduceSub, Nat.reduceLT, Nat.reduceEqDiff, Nat.reduceLeDiff, Nat.reduceBEq, reduceCtorEq, Int.reduceToNat, ↓reduceIte, rfP, rvP, rhP, frP]) <;> (try clear ee))
  · rw [if_pos f]
  · rw [if_neg (by omega)]
theorem laws_szEntry (b : ByteArray) (c n : Int) (hn : 0 ≤ n ∧ n ≤ 1048576) (hb : b.size ≤ 9223372036854775807) : Fn Tryz.prog 58 [.agg [.str b, .int .i64 c], .int .i64 n] [] (.int .i64 (if n - b.size < 0 then -1 else n - b.size)) [] := by
  refine fn_x tok (n := 13) (rs := [.tmp 4]) Tryz.func58 (by decide) rfl rfl rfl rfl ?_
  refine Wr.go ?_
  repeat' ((first | (have ee := True.intro; refine Wr.mk ?_) | ((first | refine br_go ?_ ?_ | refine pick_go ?_ ?_) <;> intro ee f <;> (try simp only [BB] at f) <;> (try simp only [numOk, verOk] at f))) <;> (try simp (maxSteps := 1000000) (disch := first | omega | (simp only [LN, numOk, verOk, rfP, rvP, rhP, frP] <;> omega) | exact Ck.mk rfl) only [ee, VC, T, Nat.reduceMul, Nat.reduceAdd, Nat.reduceSub, Nat.reduceLT, Nat.reduceEqDiff, Nat.reduceLeDiff, Nat.reduceBEq, reduceCtorEq, Int.reduceToNat, ↓reduceIte, rfP, rvP, rhP, frP]) <;> (try clear ee))
  · rw [if_pos f]
  · rw [if_neg (by omega)]
theorem laws_szNodeS (xs : List Nd) (n : Int) (hn : 0 ≤ n ∧ n ≤ 1048576) (hx : xs.length ≤ 9223372036854775807) (hs : ∀ x ∈ xs, x.2.1.size ≤ 9223372036854775807) : FnV Tryz.prog 19 [.far (xs.map ndP), .int .i64 n] (fun r => ∃ m : Int, r = .int .i64 m ∧ (0 ≤ m → m = n - xs.length - sumF ndZ xs) ∧ -1 ≤ m ∧ m ≤ n) := by
  refine fn_v tok (n := 27) (rs := [.tmp 4]) Tryz.func19 (by decide) rfl rfl rfl rfl ?_
  refine Wr.go ?_
  repeat' ((first | (have ee := True.intro; refine Wr.mk ?_) | ((first | refine br_go ?_ ?_ | refine pick_go ?_ ?_) <;> intro ee f <;> (try simp only [BB] at f) <;> (try simp only [numOk, verOk] at f))) <;> (try simp (maxSteps := 1000000) (disch := first | omega | (simp only [LN, numOk, verOk, rfP, rvP, rhP, frP] <;> omega) | exact Ck.mk rfl) only [ee, VC, T, Nat.reduceMul, Nat.reduceAdd, Nat.reduceSub, Nat.reduceLT, Nat.reduceEqDiff, Nat.reduceLeDiff, Nat.reduceBEq, reduceCtorEq, Int.reduceToNat, ↓reduceIte, rfP, rvP, rhP, frP]) <;> (try clear ee))
  · exact ⟨-1, rfl, fun h => by omega, by omega, by omega⟩
  · refine lp_go (fun x : Nat × Int => ⟨27, [(0, .far (xs.map ndP)), (1, .int .i64 x.2), (5, .int .i64 x.1)], []⟩) (fun x => x.1 ≤ xs.length ∧ (0 ≤ x.2 ∧ x.2 ≤ n) ∧ n - xs.length - sumF ndZ xs = x.2 - sumF ndZ (xs.drop x.1)) (fun x => xs.length - x.1) (0, n - xs.length) ?_ ⟨Nat.zero_le _, by simp only; omega, rfl⟩ ?_
    · (simp (disch := first | omega | (simp only [LN, numOk, verOk] <;> omega) | exact Ck.mk rfl) only [SB, EQ, Nat.reduceMul, Nat.reduceAdd, Nat.reduceSub, Nat.reduceLT, Nat.reduceEqDiff, Nat.reduceLeDiff, Nat.reduceBEq, reduceCtorEq, Int.reduceToNat, ↓reduceIte]; try omega)
    · rintro ⟨i, m⟩ ⟨h1, h2, h3⟩ N hN
      simp only at h1 h2 h3
      have hd := sumF_drop ndZ xs i
      have hz : i < xs.length → (xs.getD i default).2.1.size ≤ 9223372036854775807 := fun h => hs _ (getD_mem _ _ h)
      have hp := sumF_pos ndZ ndZ_pos (xs.drop (i + 1))
      have hg : i < xs.length → (xs.map ndP).getD i .junk = .agg [.int .i64 (xs.getD i default).1, .str (xs.getD i default).2.1, .int .i64 (xs.getD i default).2.2] := fun h => by
        rw [List.getD_eq_getElem?_getD, List.getElem?_map, List.getElem?_eq_getElem h, List.getD_eq_getElem?_getD, List.getElem?_eq_getElem h]; rfl
      refine Wr.go ?_
      repeat' ((first | (have ee := True.intro; refine Wr.mk ?_) | ((first | refine br_go ?_ ?_ | refine pick_go ?_ ?_) <;> intro ee f <;> (try simp only [BB] at f) <;> (try simp only [numOk, verOk] at f)) | (have ee := True.intro; first | refine call_x (laws_szNode _ _ _ _ (by omega) (hz (by omega))) rfl ⟨rfl⟩ ?_)) <;> (try simp (maxSteps := 1000000) (disch := first | omega | (simp only [LN, numOk, verOk, rfP, rvP, rhP, frP, hg] <;> omega) | exact Ck.mk rfl) only [ee, VC, T, Nat.reduceMul, Nat.reduceAdd, Nat.reduceSub, Nat.reduceLT, Nat.reduceEqDiff, Nat.reduceLeDiff, Nat.reduceBEq, reduceCtorEq, Int.reduceToNat, ↓reduceIte, rfP, rvP, rhP, frP, hg]) <;> (try clear ee))
      · exact ⟨-1, rfl, fun h => by omega, by omega, by omega⟩
      · split at f
        · exfalso; omega
        · rename_i hq
          rw [if_neg hq] at *
          refine hN (i + 1, m - (xs.getD i default).2.1.size) _ ⟨by simp only; omega, ⟨by simp only; omega, by simp only; omega⟩, by simp only; have := hd (by omega); unfold ndZ at *; omega⟩ (by simp only; omega) ?_
          (simp (disch := first | omega | (simp only [LN, numOk, verOk] <;> omega) | exact Ck.mk rfl) only [SB, EQ, Nat.reduceMul, Nat.reduceAdd, Nat.reduceSub, Nat.reduceLT, Nat.reduceEqDiff, Nat.reduceLeDiff, Nat.reduceBEq, reduceCtorEq, Int.reduceToNat, ↓reduceIte]; try omega)
      · rw [List.drop_eq_nil_of_le (by omega)] at h3
        exact ⟨m, rfl, fun _ => by rw [h3]; simp [sumF], by omega, by omega⟩
theorem laws_szEntryS (xs : List Et) (n : Int) (hn : 0 ≤ n ∧ n ≤ 1048576) (hx : xs.length ≤ 9223372036854775807) (hs : ∀ x ∈ xs, x.1.size ≤ 9223372036854775807) : FnV Tryz.prog 20 [.far (xs.map enP), .int .i64 n] (fun r => ∃ m : Int, r = .int .i64 m ∧ (0 ≤ m → m = n - xs.length - sumF enZ xs) ∧ -1 ≤ m ∧ m ≤ n) := by
  refine fn_v tok (n := 27) (rs := [.tmp 4]) Tryz.func20 (by decide) rfl rfl rfl rfl ?_
  refine Wr.go ?_
  repeat' ((first | (have ee := True.intro; refine Wr.mk ?_) | ((first | refine br_go ?_ ?_ | refine pick_go ?_ ?_) <;> intro ee f <;> (try simp only [BB] at f) <;> (try simp only [numOk, verOk] at f))) <;> (try simp (maxSteps := 1000000) (disch := first | omega | (simp only [LN, numOk, verOk, rfP, rvP, rhP, frP] <;> omega) | exact Ck.mk rfl) only [ee, VC, T, Nat.reduceMul, Nat.reduceAdd, Nat.reduceSub, Nat.reduceLT, Nat.reduceEqDiff, Nat.reduceLeDiff, Nat.reduceBEq, reduceCtorEq, Int.reduceToNat, ↓reduceIte, rfP, rvP, rhP, frP]) <;> (try clear ee))
  · exact ⟨-1, rfl, fun h => by omega, by omega, by omega⟩
  · refine lp_go (fun x : Nat × Int => ⟨27, [(0, .far (xs.map enP)), (1, .int .i64 x.2), (5, .int .i64 x.1)], []⟩) (fun x => x.1 ≤ xs.length ∧ (0 ≤ x.2 ∧ x.2 ≤ n) ∧ n - xs.length - sumF enZ xs = x.2 - sumF enZ (xs.drop x.1)) (fun x => xs.length - x.1) (0, n - xs.length) ?_ ⟨Nat.zero_le _, by simp only; omega, rfl⟩ ?_
    · (simp (disch := first | omega | (simp only [LN, numOk, verOk] <;> omega) | exact Ck.mk rfl) only [SB, EQ, Nat.reduceMul, Nat.reduceAdd, Nat.reduceSub, Nat.reduceLT, Nat.reduceEqDiff, Nat.reduceLeDiff, Nat.reduceBEq, reduceCtorEq, Int.reduceToNat, ↓reduceIte]; try omega)
    · rintro ⟨i, m⟩ ⟨h1, h2, h3⟩ N hN
      simp only at h1 h2 h3
      have hd := sumF_drop enZ xs i
      have hz : i < xs.length → (xs.getD i default).1.size ≤ 9223372036854775807 := fun h => hs _ (getD_mem _ _ h)
      have hp := sumF_pos enZ enZ_pos (xs.drop (i + 1))
      have hg : i < xs.length → (xs.map enP).getD i .junk = .agg [.str (xs.getD i default).1, .int .i64 (xs.getD i default).2] := fun h => by
        rw [List.getD_eq_getElem?_getD, List.getElem?_map, List.getElem?_eq_getElem h, List.getD_eq_getElem?_getD, List.getElem?_eq_getElem h]; rfl
      refine Wr.go ?_
      repeat' ((first | (have ee := True.intro; refine Wr.mk ?_) | ((first | refine br_go ?_ ?_ | refine pick_go ?_ ?_) <;> intro ee f <;> (try simp only [BB] at f) <;> (try simp only [numOk, verOk] at f)) | (have ee := True.intro; first | refine call_x (laws_szEntry _ _ _ (by omega) (hz (by omega))) rfl ⟨rfl⟩ ?_)) <;> (try simp (maxSteps := 1000000) (disch := first | omega | (simp only [LN, numOk, verOk, rfP, rvP, rhP, frP, hg] <;> omega) | exact Ck.mk rfl) only [ee, VC, T, Nat.reduceMul, Nat.reduceAdd, Nat.reduceSub, Nat.reduceLT, Nat.reduceEqDiff, Nat.reduceLeDiff, Nat.reduceBEq, reduceCtorEq, Int.reduceToNat, ↓reduceIte, rfP, rvP, rhP, frP, hg]) <;> (try clear ee))
      · exact ⟨-1, rfl, fun h => by omega, by omega, by omega⟩
      · split at f
        · exfalso; omega
        · rename_i hq
          rw [if_neg hq] at *
          refine hN (i + 1, m - (xs.getD i default).1.size) _ ⟨by simp only; omega, ⟨by simp only; omega, by simp only; omega⟩, by simp only; have := hd (by omega); unfold enZ at *; omega⟩ (by simp only; omega) ?_
          (simp (disch := first | omega | (simp only [LN, numOk, verOk] <;> omega) | exact Ck.mk rfl) only [SB, EQ, Nat.reduceMul, Nat.reduceAdd, Nat.reduceSub, Nat.reduceLT, Nat.reduceEqDiff, Nat.reduceLeDiff, Nat.reduceBEq, reduceCtorEq, Int.reduceToNat, ↓reduceIte]; try omega)
      · rw [List.drop_eq_nil_of_le (by omega)] at h3
        exact ⟨m, rfl, fun _ => by rw [h3]; simp [sumF], by omega, by omega⟩
end Go.Pv

/- What functions of the program and of the reference do, in plain values. -/
namespace Go.Pv
open Go.Proofs Go.Mth
set_option linter.unusedSimpArgs false
set_option linter.unusedVariables false
set_option maxHeartbeats 4000000
set_option maxRecDepth 4000

/-! ### the laws' own functions: whole disks -/
def mkNd (k : Int) (i : Int) : Nd := (k + 3 * i, markT (k + 3 * i + 1), k + 3 * i + 2)
def mkEt (k : Int) (i : Int) : Et := (markT (k + 2 * i), k + 2 * i + 1)
theorem laws_markNodeS (xs : List Nd) (k : Int) (hx : xs.length ≤ 1073741824) (hk : 0 ≤ k ∧ k ≤ 1099511627776) (t : TypeId) : FnE Tryz.prog 49 [.row 0 xs.length, .int .i64 k] [(0, .row ⟨3, t⟩ (xs.map ndP))] (fun r m => r = .int .i64 (k + 3 * xs.length) ∧ m = [(0, .row ⟨3, t⟩ (((seqL xs.length 0).map (mkNd k)).map ndP))]) := by
  refine fn_e tok (n := 35) (rs := [.tmp 4]) Tryz.func49 (by decide) rfl rfl rfl rfl (low_of rfl) ?_
  refine Wr.go ?_
  repeat' ((first | (have ee := True.intro; refine Wr.mk ?_) | ((first | refine br_go ?_ ?_ | refine pick_go ?_ ?_) <;> intro ee f <;> (try simp only [BB] at f) <;> (try simp only [numOk, verOk] at f))) <;> (try simp (maxSteps := 1000000) (disch := first | omega | (simp only [LN, numOk, verOk, rfP, rvP, rhP, frP] <;> omega) | exact Ck.mk rfl) only [ee, VC, T, Nat.reduceMul, Nat.reduceAdd, Nat.reduceSub, Nat.reduceLT, Nat.reduceEqDiff, Nat.reduceLeDiff, Nat.reduceBEq, reduceCtorEq, Int.reduceToNat, ↓reduceIte, rfP, rvP, rhP, frP]) <;> (try clear ee))
  refine lp_go (fun i : Nat => ⟨35, [(0, .row 0 xs.length), (1, .int .i64 (k + 3 * i)), (5, .int .i64 i)], [(0, .row ⟨3, t⟩ (((seqL i 0).map (mkNd k) ++ xs.drop i).map ndP))]⟩) (fun i => i ≤ xs.length) (fun i => xs.length - i) 0 ?_ (Nat.zero_le _) ?_
  · (simp (disch := first | omega | (simp only [LN, numOk, verOk] <;> omega) | exact Ck.mk rfl) only [SB, EQ, Nat.reduceMul, Nat.reduceAdd, Nat.reduceSub, Nat.reduceLT, Nat.reduceEqDiff, Nat.reduceLeDiff, Nat.reduceBEq, reduceCtorEq, Int.reduceToNat, ↓reduceIte]; try omega)
    simp [seqL]
  · intro i hi N hN
    have hln : ((seqL i 0).map (mkNd k) ++ xs.drop i).length = xs.length := by rw [List.length_append, List.length_map, seqL_length, List.length_drop]; omega
    have hm := mark_step (mkNd k) xs 0 i
    rw [Int.zero_add] at hm
    generalize hM : (seqL i 0).map (mkNd k) ++ xs.drop i = M at *
    have hg : i < xs.length → (M.map ndP).getD i .junk = ndP (M.getD i default) := fun h => by
      rw [List.getD_eq_getElem?_getD, List.getElem?_map, List.getElem?_eq_getElem (by omega), List.getD_eq_getElem?_getD, List.getElem?_eq_getElem (by omega)]; rfl
    have hu : ∀ (p : Nd) x, upd (ndP p) 0 [x] = .agg [x, .str p.2.1, .int .i64 p.2.2] := fun _ _ => rfl
    have hu2 : ∀ x y z w, upd (.agg [x, y, z]) 1 [w] = .agg [x, w, z] := fun _ _ _ _ => rfl
    have hu3 : ∀ x y z w, upd (.agg [x, y, z]) 2 [w] = .agg [x, y, w] := fun _ _ _ _ => rfl
    have hs1 : i < xs.length → ∀ y, ((M.map ndP).set i y).getD i .junk = y := fun h y => by
      rw [List.getD_eq_getElem?_getD, List.getElem?_set_self (by rw [List.length_map]; omega)]; rfl
    have hss : ∀ a b, ((M.map ndP).set i a).set i b = (M.map ndP).set i b := fun a b => by rw [List.set_set]
    have hset : i < xs.length → (M.map ndP).set i (.agg [.int .i64 (k + 3 * i), .str (markT (k + 3 * i + 1)), .int .i64 (k + 3 * i + 1 + 1)]) = ((seqL (i + 1) 0).map (mkNd k) ++ xs.drop (i + 1)).map ndP := fun h => by
      rw [← hm h, List.map_set]
      unfold mkNd ndP
      simp only [Int.add_assoc]; rfl
    refine Wr.go ?_
    repeat' ((first | (have ee := True.intro; refine Wr.mk ?_) | ((first | refine br_go ?_ ?_ | refine pick_go ?_ ?_) <;> intro ee f <;> (try simp only [BB] at f) <;> (try simp only [numOk, verOk] at f)) | (have ee := True.intro; first | refine call_x (laws_markText _ (by omega)) rfl ⟨rfl⟩ ?_)) <;> (try simp (maxSteps := 1000000) (disch := first | omega | (simp only [LN, numOk, verOk, rfP, rvP, rhP, frP, hln, hg, hu, hu2, hu3, hs1, hss, hset] <;> omega) | exact Ck.mk rfl) only [ee, VC, T, Nat.reduceMul, Nat.reduceAdd, Nat.reduceSub, Nat.reduceLT, Nat.reduceEqDiff, Nat.reduceLeDiff, Nat.reduceBEq, reduceCtorEq, Int.reduceToNat, ↓reduceIte, rfP, rvP, rhP, frP, hln, hg, hu, hu2, hu3, hs1, hss, hset]) <;> (try clear ee))
    · refine hN (i + 1) _ (by omega) (by omega) ?_
      (simp (disch := first | omega | (simp only [LN, numOk, verOk] <;> omega) | exact Ck.mk rfl) only [SB, EQ, Nat.reduceMul, Nat.reduceAdd, Nat.reduceSub, Nat.reduceLT, Nat.reduceEqDiff, Nat.reduceLeDiff, Nat.reduceBEq, reduceCtorEq, Int.reduceToNat, ↓reduceIte]; try omega)
    · obtain rfl : i = xs.length := by omega
      rw [← hM]
      exact fin_t [] (⟨rfl, rfl⟩) rfl (by simp [RV, RV2, RVl, RV1, tau, tget, hget, data1, oneOf]) (by simp [RH, RVl, RV1, tau, hget, data1]) (by simp [Taus, hget])
theorem laws_markEntryS (xs : List Et) (k : Int) (hx : xs.length ≤ 1073741824) (hk : 0 ≤ k ∧ k ≤ 1099511627776) (t : TypeId) : FnE Tryz.prog 50 [.row 0 xs.length, .int .i64 k] [(0, .row ⟨2, t⟩ (xs.map enP))] (fun r m => r = .int .i64 (k + 2 * xs.length) ∧ m = [(0, .row ⟨2, t⟩ (((seqL xs.length 0).map (mkEt k)).map enP))]) := by
  refine fn_e tok (n := 28) (rs := [.tmp 4]) Tryz.func50 (by decide) rfl rfl rfl rfl (low_of rfl) ?_
  refine Wr.go ?_
  repeat' ((first | (have ee := True.intro; refine Wr.mk ?_) | ((first | refine br_go ?_ ?_ | refine pick_go ?_ ?_) <;> intro ee f <;> (try simp only [BB] at f) <;> (try simp only [numOk, verOk] at f))) <;> (try simp (maxSteps := 1000000) (disch := first | omega | (simp only [LN, numOk, verOk, rfP, rvP, rhP, frP] <;> omega) | exact Ck.mk rfl) only [ee, VC, T, Nat.reduceMul, Nat.reduceAdd, Nat.reduceSub, Nat.reduceLT, Nat.reduceEqDiff, Nat.reduceLeDiff, Nat.reduceBEq, reduceCtorEq, Int.reduceToNat, ↓reduceIte, rfP, rvP, rhP, frP]) <;> (try clear ee))
  refine lp_go (fun i : Nat => ⟨28, [(0, .row 0 xs.length), (1, .int .i64 (k + 2 * i)), (5, .int .i64 i)], [(0, .row ⟨2, t⟩ (((seqL i 0).map (mkEt k) ++ xs.drop i).map enP))]⟩) (fun i => i ≤ xs.length) (fun i => xs.length - i) 0 ?_ (Nat.zero_le _) ?_
  · (simp (disch := first | omega | (simp only [LN, numOk, verOk] <;> omega) | exact Ck.mk rfl) only [SB, EQ, Nat.reduceMul, Nat.reduceAdd, Nat.reduceSub, Nat.reduceLT, Nat.reduceEqDiff, Nat.reduceLeDiff, Nat.reduceBEq, reduceCtorEq, Int.reduceToNat, ↓reduceIte]; try omega)
    simp [seqL]
  · intro i hi N hN
    have hln : ((seqL i 0).map (mkEt k) ++ xs.drop i).length = xs.length := by rw [List.length_append, List.length_map, seqL_length, List.length_drop]; omega
    have hm := mark_step (mkEt k) xs 0 i
    rw [Int.zero_add] at hm
    generalize hM : (seqL i 0).map (mkEt k) ++ xs.drop i = M at *
    have hg : i < xs.length → (M.map enP).getD i .junk = enP (M.getD i default) := fun h => by
      rw [List.getD_eq_getElem?_getD, List.getElem?_map, List.getElem?_eq_getElem (by omega), List.getD_eq_getElem?_getD, List.getElem?_eq_getElem (by omega)]; rfl
    have hu : ∀ (p : Et) x, upd (enP p) 0 [x] = .agg [x, .int .i64 p.2] := fun _ _ => rfl
    have hu2 : ∀ x y z, upd (.agg [x, y]) 1 [z] = .agg [x, z] := fun _ _ _ => rfl
    have hs1 : i < xs.length → ∀ y, ((M.map enP).set i y).getD i .junk = y := fun h y => by
      rw [List.getD_eq_getElem?_getD, List.getElem?_set_self (by rw [List.length_map]; omega)]; rfl
    have hss : ∀ a b, ((M.map enP).set i a).set i b = (M.map enP).set i b := fun a b => by rw [List.set_set]
    have hset : i < xs.length → (M.map enP).set i (.agg [.str (markT (k + 2 * i)), .int .i64 (k + 2 * i + 1)]) = ((seqL (i + 1) 0).map (mkEt k) ++ xs.drop (i + 1)).map enP := fun h => by
      rw [← hm h, List.map_set]; rfl
    refine Wr.go ?_
    repeat' ((first | (have ee := True.intro; refine Wr.mk ?_) | ((first | refine br_go ?_ ?_ | refine pick_go ?_ ?_) <;> intro ee f <;> (try simp only [BB] at f) <;> (try simp only [numOk, verOk] at f)) | (have ee := True.intro; first | refine call_x (laws_markText _ (by omega)) rfl ⟨rfl⟩ ?_)) <;> (try simp (maxSteps := 1000000) (disch := first | omega | (simp only [LN, numOk, verOk, rfP, rvP, rhP, frP, hln, hg, hu, hu2, hs1, hss, hset] <;> omega) | exact Ck.mk rfl) only [ee, VC, T, Nat.reduceMul, Nat.reduceAdd, Nat.reduceSub, Nat.reduceLT, Nat.reduceEqDiff, Nat.reduceLeDiff, Nat.reduceBEq, reduceCtorEq, Int.reduceToNat, ↓reduceIte, rfP, rvP, rhP, frP, hln, hg, hu, hu2, hs1, hss, hset]) <;> (try clear ee))
    · refine hN (i + 1) _ (by omega) (by omega) ?_
      (simp (disch := first | omega | (simp only [LN, numOk, verOk] <;> omega) | exact Ck.mk rfl) only [SB, EQ, Nat.reduceMul, Nat.reduceAdd, Nat.reduceSub, Nat.reduceLT, Nat.reduceEqDiff, Nat.reduceLeDiff, Nat.reduceBEq, reduceCtorEq, Int.reduceToNat, ↓reduceIte]; try omega)
    · obtain rfl : i = xs.length := by omega
      rw [← hM]
      exact fin_t [] (⟨rfl, rfl⟩) rfl (by simp [RV, RV2, RVl, RV1, tau, tget, hget, data1, oneOf]) (by simp [RH, RVl, RV1, tau, hget, data1]) (by simp [Taus, hget])
/-- A disk whose rows are one's own, from the key K on. -/
def dkR (K : Nat) (d : Dk) : PV := .agg [.row K d.1.length, .row (K + 1) d.2.1.length, .row (K + 2) d.2.2.1.length, .row (K + 3) d.2.2.2.1.length, .int .i64 d.2.2.2.2.1, .int .i64 d.2.2.2.2.2]
def dkH (d : Dk) : Hp := [(64, .row ⟨3, 0⟩ (d.1.map ndP)), (65, .row ⟨2, 0⟩ (d.2.1.map enP)), (66, .row ⟨2, 0⟩ (d.2.2.1.map enP)), (67, .row ⟨1, 0⟩ (d.2.2.2.1.map .str))]
theorem laws_toDisk_R (d : Dk) (h : DkOk d) : FnE Tryz.prog 8 [dkP d] [] (fun r m => r = dkR 64 d ∧ m = dkH d) := by
  obtain ⟨ns, es, os, ss, r, x⟩ := d
  have h1 := h.ns
  have h2 := h.es
  have h3 := h.os
  have h4 := h.ss
  simp only at h1 h2 h3 h4
  unfold dkP
  refine fn_e tok (n := 27) (rs := [.cell 2 35]) Tryz.func8 (by decide) rfl rfl rfl rfl (low_of rfl) ?_
  refine Wr.go ?_
  repeat' ((first | (have ee := True.intro; refine Wr.mk ?_) | ((first | refine br_go ?_ ?_ | refine pick_go ?_ ?_) <;> intro ee f <;> (try simp only [BB] at f) <;> (try simp only [numOk, verOk] at f)) | (have ee := True.intro; first | (refine call_h [] [] (laws_toNodeS_R ns (by omega)) (by decide) rfl rfl ?_; rintro _ _ ⟨rfl, rfl⟩) | (refine call_h [] [] (laws_toEntryS_R es (by omega)) (by decide) rfl rfl ?_; rintro _ _ ⟨rfl, rfl⟩) | (refine call_h [] [] (laws_toEntryS_R os (by omega)) (by decide) rfl rfl ?_; rintro _ _ ⟨rfl, rfl⟩) | (refine call_h [] [] (laws_toStr_R ss (by omega)) (by decide) rfl rfl ?_; rintro _ _ ⟨rfl, rfl⟩))) <;> (try simp (maxSteps := 1000000) (disch := first | omega | (simp only [LN, numOk, verOk, rfP, rvP, rhP, frP] <;> omega) | exact Ck.mk rfl) only [ee, VC, T, Nat.reduceMul, Nat.reduceAdd, Nat.reduceSub, Nat.reduceLT, Nat.reduceEqDiff, Nat.reduceLeDiff, Nat.reduceBEq, reduceCtorEq, Int.reduceToNat, ↓reduceIte, rfP, rvP, rhP, frP]) <;> (try clear ee))
  exact fin_t [some 448, some 704, some 960, some 1216] (⟨rfl, rfl⟩) rfl (by simp [RV, RV2, RVl, RV1, tau, tget, hget, data1, oneOf, dkR, dkH]) (by simp [RH, RVl, RV1, tau, hget, data1, dkR, dkH]) (by simp [Taus, hget, dkR, dkH])
theorem laws_toDisk (d : Dk) (h : DkOk d) : Fn Tryz.prog 8 [dkP d] [] (dkP d) [] := by
  obtain ⟨_, _, ⟨rfl, rfl⟩, k⟩ := laws_toDisk_R d h
  refine k.far ?_
  simp [fz, fz2, fz1, cvtl, elems, dkR, dkH, dkP, hget, data1]
theorem laws_eqDisk_W (x y : Dk) (hx : DkW x) : Fn Tryz.prog 11 [dkP x, dkP y] [] (.bool (decide (x = y))) [] := by
  obtain ⟨ns, es, os, ss, r, n⟩ := x
  obtain ⟨ns', es', os', ss', r', n'⟩ := y
  have h1 := hx.ns
  have h2 := hx.es
  have h3 := hx.os
  have h4 := hx.ss
  simp only at h1 h2 h3 h4
  unfold dkP
  refine fn_x tok (n := 39) (rs := [.tmp 4]) Tryz.func11 (by decide) rfl rfl rfl rfl ?_
  refine Wr.go ?_
  repeat' ((first | (have ee := True.intro; refine Wr.mk ?_) | ((first | refine br_go ?_ ?_ | refine pick_go ?_ ?_) <;> intro ee f <;> (try simp only [BB] at f) <;> (try simp only [numOk, verOk] at f)) | (have ee := True.intro; first | refine call_x (laws_eqNodeS ns ns' (by omega)) rfl ⟨rfl⟩ ?_ | refine call_x (laws_eqEntryS es es' (by omega)) rfl ⟨rfl⟩ ?_ | refine call_x (laws_eqEntryS os os' (by omega)) rfl ⟨rfl⟩ ?_ | refine call_x (laws_eqStr ss ss' (by omega)) rfl ⟨rfl⟩ ?_)) <;> (try simp (maxSteps := 1000000) (disch := first | omega | (simp only [LN, numOk, verOk, rfP, rvP, rhP, frP] <;> omega) | exact Ck.mk rfl) only [ee, VC, T, Nat.reduceMul, Nat.reduceAdd, Nat.reduceSub, Nat.reduceLT, Nat.reduceEqDiff, Nat.reduceLeDiff, Nat.reduceBEq, reduceCtorEq, Int.reduceToNat, ↓reduceIte, rfP, rvP, rhP, frP]) <;> (try clear ee))
  all_goals simp_all
theorem laws_szDisk (d : Dk) (n : Int) (hn : 0 ≤ n ∧ n ≤ 1048576) (h1 : d.1.length ≤ 9223372036854775807) (h2 : d.2.1.length ≤ 9223372036854775807) (h3 : d.2.2.1.length ≤ 9223372036854775807) (h4 : d.2.2.2.1.length ≤ 9223372036854775807)
    (k1 : ∀ x ∈ d.1, x.2.1.size ≤ 9223372036854775807) (k2 : ∀ x ∈ d.2.1, x.1.size ≤ 9223372036854775807) (k3 : ∀ x ∈ d.2.2.1, x.1.size ≤ 9223372036854775807) (k4 : ∀ x ∈ d.2.2.2.1, x.size ≤ 9223372036854775807) :
    FnV Tryz.prog 5 [dkP d, .int .i64 n] (fun r => ∃ m : Int, r = .int .i64 m ∧ (0 ≤ m → DkOk d) ∧ -1 ≤ m ∧ m ≤ n) := by
  obtain ⟨ns, es, os, ss, r, x⟩ := d
  simp only at h1 h2 h3 h4 k1 k2 k3 k4
  unfold dkP
  have p1 := sumF_pos ndZ ndZ_pos ns
  have p2 := sumF_pos enZ enZ_pos es
  have p3 := sumF_pos enZ enZ_pos os
  have p4 := sumSz_pos ss
  refine fn_v tok (n := 30) (rs := [.tmp 4]) Tryz.func5 (by decide) rfl rfl rfl rfl ?_
  refine Wr.go ?_
  repeat' ((first | (have ee := True.intro; refine Wr.mk ?_) | ((first | refine br_go ?_ ?_ | refine pick_go ?_ ?_) <;> intro ee f <;> (try simp only [BB] at f) <;> (try simp only [numOk, verOk] at f))) <;> (try simp (maxSteps := 1000000) (disch := first | omega | (simp only [LN, numOk, verOk, rfP, rvP, rhP, frP] <;> omega) | exact Ck.mk rfl) only [ee, VC, T, Nat.reduceMul, Nat.reduceAdd, Nat.reduceSub, Nat.reduceLT, Nat.reduceEqDiff, Nat.reduceLeDiff, Nat.reduceBEq, reduceCtorEq, Int.reduceToNat, ↓reduceIte, rfP, rvP, rhP, frP]) <;> (try clear ee))
  refine call_v (laws_szNodeS ns n hn h1 k1) rfl ?_
  rintro _ ⟨m1, rfl, q1, q2, q3⟩
  refine ⟨⟨rfl⟩, ?_⟩
  refine Wr.go ?_
  repeat' ((first | (have ee := True.intro; refine Wr.mk ?_) | ((first | refine br_go ?_ ?_ | refine pick_go ?_ ?_) <;> intro ee f <;> (try simp only [BB] at f) <;> (try simp only [numOk, verOk] at f))) <;> (try simp (maxSteps := 1000000) (disch := first | omega | (simp only [LN, numOk, verOk, rfP, rvP, rhP, frP] <;> omega) | exact Ck.mk rfl) only [ee, VC, T, Nat.reduceMul, Nat.reduceAdd, Nat.reduceSub, Nat.reduceLT, Nat.reduceEqDiff, Nat.reduceLeDiff, Nat.reduceBEq, reduceCtorEq, Int.reduceToNat, ↓reduceIte, rfP, rvP, rhP, frP]) <;> (try clear ee))
  · exact ⟨-1, rfl, fun h => by omega, by omega, by omega⟩
  · refine call_v (laws_szEntryS es m1 (by omega) h2 k2) rfl ?_
    rintro _ ⟨m2, rfl, q4, q5, q6⟩
    refine ⟨⟨rfl⟩, ?_⟩
    refine Wr.go ?_
    repeat' ((first | (have ee := True.intro; refine Wr.mk ?_) | ((first | refine br_go ?_ ?_ | refine pick_go ?_ ?_) <;> intro ee f <;> (try simp only [BB] at f) <;> (try simp only [numOk, verOk] at f))) <;> (try simp (maxSteps := 1000000) (disch := first | omega | (simp only [LN, numOk, verOk, rfP, rvP, rhP, frP] <;> omega) | exact Ck.mk rfl) only [ee, VC, T, Nat.reduceMul, Nat.reduceAdd, Nat.reduceSub, Nat.reduceLT, Nat.reduceEqDiff, Nat.reduceLeDiff, Nat.reduceBEq, reduceCtorEq, Int.reduceToNat, ↓reduceIte, rfP, rvP, rhP, frP]) <;> (try clear ee))
    · exact ⟨-1, rfl, fun h => by omega, by omega, by omega⟩
    · refine call_v (laws_szEntryS os m2 (by omega) h3 k3) rfl ?_
      rintro _ ⟨m3, rfl, q7, q8, q9⟩
      refine ⟨⟨rfl⟩, ?_⟩
      refine Wr.go ?_
      repeat' ((first | (have ee := True.intro; refine Wr.mk ?_) | ((first | refine br_go ?_ ?_ | refine pick_go ?_ ?_) <;> intro ee f <;> (try simp only [BB] at f) <;> (try simp only [numOk, verOk] at f))) <;> (try simp (maxSteps := 1000000) (disch := first | omega | (simp only [LN, numOk, verOk, rfP, rvP, rhP, frP] <;> omega) | exact Ck.mk rfl) only [ee, VC, T, Nat.reduceMul, Nat.reduceAdd, Nat.reduceSub, Nat.reduceLT, Nat.reduceEqDiff, Nat.reduceLeDiff, Nat.reduceBEq, reduceCtorEq, Int.reduceToNat, ↓reduceIte, rfP, rvP, rhP, frP]) <;> (try clear ee))
      · exact ⟨-1, rfl, fun h => by omega, by omega, by omega⟩
      · refine call_v (laws_szStringS ss m3 (by omega) h4 k4) rfl ?_
        rintro _ ⟨m4, rfl, q10, q11, q12⟩
        refine ⟨⟨rfl⟩, ?_⟩
        refine Wr.go ?_
        repeat' ((first | (have ee := True.intro; refine Wr.mk ?_) | ((first | refine br_go ?_ ?_ | refine pick_go ?_ ?_) <;> intro ee f <;> (try simp only [BB] at f) <;> (try simp only [numOk, verOk] at f))) <;> (try simp (maxSteps := 1000000) (disch := first | omega | (simp only [LN, numOk, verOk, rfP, rvP, rhP, frP] <;> omega) | exact Ck.mk rfl) only [ee, VC, T, Nat.reduceMul, Nat.reduceAdd, Nat.reduceSub, Nat.reduceLT, Nat.reduceEqDiff, Nat.reduceLeDiff, Nat.reduceBEq, reduceCtorEq, Int.reduceToNat, ↓reduceIte, rfP, rvP, rhP, frP]) <;> (try clear ee))
        · exact ⟨-1, rfl, fun h => by omega, by omega, by omega⟩
        · refine ⟨m4, rfl, fun h => ?_, by omega, by omega⟩
          have e1 := q1 (by omega)
          have e2 := q4 (by omega)
          have e3 := q7 (by omega)
          have e4 := q10 h
          refine ⟨by simp only; omega, by simp only; omega, by simp only; omega, by simp only; omega, fun y hy => ?_, fun y hy => ?_, fun y hy => ?_, fun y hy => ?_⟩
          · have : (y.2.1.size : Int) ≤ sumF ndZ ns := sumF_mem ndZ ndZ_pos hy
            omega
          · have : (y.1.size : Int) ≤ sumF enZ es := sumF_mem enZ enZ_pos hy
            omega
          · have : (y.1.size : Int) ≤ sumF enZ os := sumF_mem enZ enZ_pos hy
            omega
          · have : (y.size : Int) ≤ sumSz ss := sumSz_mem hy
            omega
theorem laws_markDisk_W (d : Dk) (k : Int) (h : DkW d) (hk : 0 ≤ k ∧ k ≤ 1073741824) (t1 t2 t3 t4 : TypeId) :
    FnE Tryz.prog 13 [dkR 0 d, .int .i64 k] [(0, .row ⟨3, t1⟩ (d.1.map ndP)), (1, .row ⟨2, t2⟩ (d.2.1.map enP)), (2, .row ⟨2, t3⟩ (d.2.2.1.map enP)), (3, .row ⟨1, t4⟩ (d.2.2.2.1.map .str))]
      (fun r m => r = .int .i64 (k + 3 * d.1.length + 2 * d.2.1.length + 2 * d.2.2.1.length + d.2.2.2.1.length) ∧ m = [(0, .row ⟨3, t1⟩ (((seqL d.1.length 0).map (mkNd k)).map ndP)), (1, .row ⟨2, t2⟩ (((seqL d.2.1.length 0).map (mkEt (k + 3 * d.1.length))).map enP)),
        (2, .row ⟨2, t3⟩ (((seqL d.2.2.1.length 0).map (mkEt (k + 3 * d.1.length + 2 * d.2.1.length))).map enP)), (3, .row ⟨1, t4⟩ (((seqL d.2.2.2.1.length (k + 3 * d.1.length + 2 * d.2.1.length + 2 * d.2.2.1.length)).map markT).map .str))]) := by
  obtain ⟨ns, es, os, ss, r, x⟩ := d
  have h1 := h.ns
  have h2 := h.es
  have h3 := h.os
  have h4 := h.ss
  simp only at h1 h2 h3 h4
  unfold dkR
  refine fn_e tok (n := 22) (rs := [.tmp 4]) Tryz.func13 (by decide) rfl rfl rfl rfl (low_of rfl) ?_
  refine Wr.go ?_
  repeat' ((first | (have ee := True.intro; refine Wr.mk ?_) | ((first | refine br_go ?_ ?_ | refine pick_go ?_ ?_) <;> intro ee f <;> (try simp only [BB] at f) <;> (try simp only [numOk, verOk] at f)) | (have ee := True.intro; first | (refine call_h [0] [] (laws_markNodeS ns k (by omega) (by omega) t1) (by decide) rfl rfl ?_; rintro _ _ ⟨rfl, rfl⟩) | (refine call_h [1] [] (laws_markEntryS es _ (by omega) (by omega) t2) (by decide) rfl rfl ?_; rintro _ _ ⟨rfl, rfl⟩) | (refine call_h [2] [] (laws_markEntryS os _ (by omega) (by omega) t3) (by decide) rfl rfl ?_; rintro _ _ ⟨rfl, rfl⟩) | (refine call_h [3] [] (laws_markStringS ss _ (by omega) (by omega) t4) (by decide) rfl rfl ?_; rintro _ _ ⟨rfl, rfl⟩))) <;> (try simp (maxSteps := 1000000) (disch := first | omega | (simp only [LN, numOk, verOk, rfP, rvP, rhP, frP, seqL_length, List.length_map] <;> omega) | exact Ck.mk rfl) only [ee, VC, T, Nat.reduceMul, Nat.reduceAdd, Nat.reduceSub, Nat.reduceLT, Nat.reduceEqDiff, Nat.reduceLeDiff, Nat.reduceBEq, reduceCtorEq, Int.reduceToNat, ↓reduceIte, rfP, rvP, rhP, frP, seqL_length, List.length_map]) <;> (try clear ee))
  exact fin_t [] (⟨rfl, rfl⟩) rfl (by simp [RV, RV2, RVl, RV1, tau, tget, hget, data1, oneOf]) (by simp [RH, RVl, RV1, tau, hget, data1]) (by simp [Taus, hget])
end Go.Pv

/- What functions of the program and of the reference do, in plain values. -/
namespace Go.Pv
open Go.Proofs Go.Mth
set_option linter.unusedSimpArgs false
set_option linter.unusedVariables false
set_option maxHeartbeats 4000000
set_option maxRecDepth 4000

/-! ### laws of disks -/
def DkIn (d : Dk) : Prop := (d.1.length ≤ 9223372036854775807 ∧ ∀ a ∈ d.1, i64 a.1 ∧ a.2.1.size ≤ 9223372036854775807 ∧ i64 a.2.2) ∧ (d.2.1.length ≤ 9223372036854775807 ∧ ∀ a ∈ d.2.1, a.1.size ≤ 9223372036854775807 ∧ i64 a.2) ∧ (d.2.2.1.length ≤ 9223372036854775807 ∧ ∀ a ∈ d.2.2.1, a.1.size ≤ 9223372036854775807 ∧ i64 a.2) ∧
  (d.2.2.2.1.length ≤ 9223372036854775807 ∧ ∀ a ∈ d.2.2.2.1, a.size ≤ 9223372036854775807) ∧ i64 d.2.2.2.2.1 ∧ i64 d.2.2.2.2.2
theorem sz_disk (d : Dk) (h : DkIn d) : FnV Tryz.prog 5 [dkP d, .int .i64 1048576] (fun r => ∃ m : Int, r = .int .i64 m ∧ (0 ≤ m → DkOk d) ∧ -1 ≤ m ∧ m ≤ 1048576) :=
  laws_szDisk d 1048576 (by decide) h.1.1 h.2.1.1 h.2.2.1.1 h.2.2.2.1.1 (fun x hx => (h.1.2 x hx).2.1) (fun x hx => (h.2.1.2 x hx).1) (fun x hx => (h.2.2.1.2 x hx).1) (fun x hx => h.2.2.2.1.2 x hx)
end Go.Pv

/- Deeds on disks, in plain numbers. -/
namespace Go.Mth
open Go.RowKit

/-! ### right names -/
def nmB (x : Int) : Prop := (97 ≤ x ∧ x ≤ 122) ∨ (48 ≤ x ∧ x ≤ 57) ∨ x = 46 ∨ x = 45
instance (x : Int) : Decidable (nmB x) := inferInstanceAs (Decidable (_ ∨ _))
def nmOk (b : ByteArray) : Prop := (∀ i : Nat, i < b.size → nmB (bt b i)) ∧ 1 ≤ b.size ∧ b.size ≤ 20
instance (b : ByteArray) : Decidable (nmOk b) := inferInstanceAs (Decidable (_ ∧ _))

/-! ### decimals -/
def decN : Int → List Int → Option Int
  | a, [] => some a
  | a, x :: r => if 48 ≤ x ∧ x ≤ 57 then decN (10 * a + (x - 48)) r else none
theorem decN_step (a : Int) (L : List Int) (i : Nat) (h : i < L.length) : decN a (L.drop i) = if 48 ≤ L.getD i default ∧ L.getD i default ≤ 57 then decN (10 * a + (L.getD i default - 48)) (L.drop (i + 1)) else none := by
  rw [List.drop_eq_getElem_cons h, List.getD_eq_getElem?_getD, List.getElem?_eq_getElem h]; rfl
def decL : Nat → Int → List Int
  | 0, _ => []
  | k + 1, n => if n = 0 then [] else decL k (n / 10) ++ [48 + n % 10]
def decT (n : Int) : ByteArray := if n = 0 then strOf [48] else strOf (decL 20 n)
theorem decL_range : ∀ (k : Nat) (n : Int), ∀ x ∈ decL k n, 48 ≤ x ∧ x ≤ 57
  | 0, _, x, h => by simp [decL] at h
  | k + 1, n, x, h => by
    unfold decL at h
    split at h
    · simp at h
    · rcases List.mem_append.1 h with h | h
      · exact decL_range k _ x h
      · rw [List.mem_singleton] at h; omega
/-- A decimal of a number that is at most 1000000000. -/
def rdec (t : ByteArray) : Int × Bool := match decN 0 (bytesOf t) with
  | some n => if t.size ≤ 10 ∧ n ≤ 1000000000 ∧ decT n = t then (n, true) else (0, false)
  | none => (0, false)

/-! ### entries -/
def hasT (L : List Et) (n : ByteArray) : Prop := 0 ≤ placeI L n
instance (L : List Et) (n : ByteArray) : Decidable (hasT L n) := inferInstanceAs (Decidable (_ ≤ _))
def dropT (L : List Et) (n : ByteArray) : List Et := L.filter fun e => decide (e.1 ≠ n)
def sLt (a b : ByteArray) : Bool := Op.bytesLess a.toList b.toList
/-- With an entry more: ahead of the first that is not below it, and in the place of those of its name. -/
def putG (e : Et) : Bool → List Et → List Et
  | d, [] => if d then [] else [e]
  | d, x :: r => (if d = false ∧ sLt x.1 e.1 = false then [e] else []) ++ (if x.1 = e.1 then [] else [x]) ++ putG e (d || !sLt x.1 e.1) r
def putT (L : List Et) (e : Et) : List Et := putG e false L

/-! ### steps -/
def colI (s : ByteArray) : Int := findI (fun x : Int => decide (x = 58)) ((bytesOf s).drop 1) 1
/-- What a step says: a name, another one, a number, and whether it is right. -/
def stT (s : ByteArray) : ByteArray × ByteArray × Int × Bool :=
  if s.size < 2 ∨ (bt s 0 ≠ 43 ∧ bt s 0 ≠ 45 ∧ bt s 0 ≠ 62) then (⟨#[]⟩, ⟨#[]⟩, 0, false)
  else if bt s 0 = 45 then (s.extract 1 s.size, ⟨#[]⟩, 0, true)
  else if colI s < 0 then (⟨#[]⟩, ⟨#[]⟩, 0, false)
  else if bt s 0 = 62 then (s.extract 1 (colI s).toNat, s.extract ((colI s).toNat + 1) s.size, 0, decide (nmOk (s.extract ((colI s).toNat + 1) s.size)) && !decide (s.extract 1 (colI s).toNat = s.extract ((colI s).toNat + 1) s.size))
  else (s.extract 1 (colI s).toNat, ⟨#[]⟩, (rdec (s.extract ((colI s).toNat + 1) s.size)).1, (rdec (s.extract ((colI s).toNat + 1) s.size)).2 && decide (nmOk (s.extract 1 (colI s).toNat)))
/-- The entries behind a step. -/
def sdT (L : List Et) (s : ByteArray) : Option (List Et) :=
  if (stT s).2.2.2 = true ∧ nmOk (stT s).1 ∧ (bt s 0 = 43 ∨ hasT L (stT s).1) then
    some (if bt s 0 = 43 then putT L ((stT s).1, (stT s).2.2.1) else if bt s 0 = 45 then dropT L (stT s).1 else putT (dropT L (stT s).1) ((stT s).2.1, if bt s 0 = 62 then entT L (stT s).1 else (stT s).2.2.1))
  else none
def sgT : List Et → List ByteArray → List Et × Bool
  | L, [] => (L, true)
  | L, s :: r => match sdT L s with
    | some L2 => sgT L2 r
    | none => ([], false)
theorem sgT_step (L : List Et) (S : List ByteArray) (i : Nat) (h : i < S.length) : sgT L (S.drop i) = match sdT L (S.getD i default) with
    | some L2 => sgT L2 (S.drop (i + 1))
    | none => ([], false) := by
  rw [List.drop_eq_getElem_cons h, List.getD_eq_getElem?_getD, List.getElem?_eq_getElem h]; rfl
/-- The entries behind the first k steps. -/
def stepsT (d : Dk) (k : Nat) : List Et × Bool := sgT d.2.2.1 (d.2.2.2.1.take k)

/-! ### right disks -/
def usedT (d : Dk) : Int := (d.1.map fun x => (x.2.1.size : Int)).sum
def entsOk (d : Dk) (L : List Et) : Prop := (∀ i : Nat, i < L.length → nmOk (L.getD i default).1 ∧ 0 ≤ nodeI d.1 (L.getD i default).2 ∧ (0 < i → sLt (L.getD (i - 1) default).1 (L.getD i default).1 = true)) ∧ L.length ≤ 16
instance (d : Dk) (L : List Et) : Decidable (entsOk d L) := inferInstanceAs (Decidable (_ ∧ _))
def nodesOk (d : Dk) : Prop := ∀ i : Nat, i < d.1.length → (1 ≤ (d.1.getD i default).1 ∧ (d.1.getD i default).1 ≤ d.2.2.2.2.2 - 1) ∧ (0 ≤ (d.1.getD i default).2.2 ∧ (d.1.getD i default).2.2 ≤ (d.1.getD i default).2.1.size) ∧ (0 < i → (d.1.getD (i - 1) default).1 < (d.1.getD i default).1)
instance (d : Dk) : Decidable (nodesOk d) := by unfold nodesOk; infer_instance
def stepsOk (d : Dk) : Prop := ∀ k : Nat, k < d.2.2.2.1.length + 1 → (stepsT d k).2 = true ∧ entsOk d (stepsT d k).1 ∧ (k = d.2.2.2.1.length → (stepsT d k).1 = d.2.1)
instance (d : Dk) : Decidable (stepsOk d) := by unfold stepsOk; infer_instance
def diskOk (d : Dk) : Prop := (d.1.length ≤ 64 ∧ (0 ≤ d.2.2.2.2.1 ∧ d.2.2.2.2.1 ≤ 1000000000) ∧ (1 ≤ d.2.2.2.2.2 ∧ d.2.2.2.2.2 ≤ 1000000000) ∧ usedT d ≤ d.2.2.2.2.1) ∧ nodesOk d ∧ stepsOk d
instance (d : Dk) : Decidable (diskOk d) := inferInstanceAs (Decidable (_ ∧ _))

/-! ### deeds -/
def usedB (d : Dk) (id : Int) : Prop := ∃ k : Nat, k < d.2.2.2.1.length + 1 ∧ ∃ e ∈ (stepsT d k).1, e.2 = id
instance (d : Dk) (id : Int) : Decidable (usedB d id) := by unfold usedB; infer_instance
def setNd (d : Dk) (k : Nat) (x : Nd) : Dk := (d.1.set k x, d.2)
def appendT (d : Dk) (n t : ByteArray) : Dk × Int :=
  if ¬ diskOk d ∨ ¬ hasT d.2.1 n then (d, 3)
  else if (t.size : Int) > d.2.2.2.2.1 - usedT d then (setNd d (nodeI d.1 (entT d.2.1 n)).toNat ((d.1.getD (nodeI d.1 (entT d.2.1 n)).toNat default).1, (d.1.getD (nodeI d.1 (entT d.2.1 n)).toNat default).2.1 ++ t.extract 0 (d.2.2.2.2.1 - usedT d).toNat, (d.1.getD (nodeI d.1 (entT d.2.1 n)).toNat default).2.2), 5)
  else (setNd d (nodeI d.1 (entT d.2.1 n)).toNat ((d.1.getD (nodeI d.1 (entT d.2.1 n)).toNat default).1, (d.1.getD (nodeI d.1 (entT d.2.1 n)).toNat default).2.1 ++ t, (d.1.getD (nodeI d.1 (entT d.2.1 n)).toNat default).2.2), 0)
def syncT (d : Dk) (n : ByteArray) : Dk × Int :=
  if ¬ diskOk d ∨ ¬ hasT d.2.1 n then (d, 3)
  else (setNd d (nodeI d.1 (entT d.2.1 n)).toNat ((d.1.getD (nodeI d.1 (entT d.2.1 n)).toNat default).1, (d.1.getD (nodeI d.1 (entT d.2.1 n)).toNat default).2.1, (d.1.getD (nodeI d.1 (entT d.2.1 n)).toNat default).2.1.size), 0)
end Go.Mth

/- Laws of rows and of deeds, in plain numbers. -/
namespace Go.Mth
open Go.RowKit

/-! ### texts in order -/
theorem bl_trans : ∀ {a b c : List UInt8}, Op.bytesLess a b = true → Op.bytesLess b c = true → Op.bytesLess a c = true
  | _, [], _, h, _ => by cases ‹List UInt8› <;> simp [Op.bytesLess] at h
  | _, _ :: _, [], _, h => by simp [Op.bytesLess] at h
  | [], _ :: _, _ :: _, _, _ => by simp [Op.bytesLess]
  | x :: a, y :: b, z :: c, h1, h2 => by
    simp only [Op.bytesLess, Bool.or_eq_true, Bool.and_eq_true, decide_eq_true_eq, beq_iff_eq] at *
    rcases h1 with h1 | ⟨rfl, h1⟩
    · rcases h2 with h2 | ⟨rfl, h2⟩
      · exact .inl (UInt8.lt_trans h1 h2)
      · exact .inl h1
    · rcases h2 with h2 | ⟨rfl, h2⟩
      · exact .inl h2
      · exact .inr ⟨rfl, bl_trans h1 h2⟩
theorem sLt_trans {a b c : ByteArray} (h1 : sLt a b = true) (h2 : sLt b c = true) : sLt a c = true := bl_trans h1 h2
/-- Names, each ahead of the next one. -/
theorem asc_pairs : ∀ (L : List ByteArray), (∀ i : Nat, i + 1 < L.length → sLt (L.getD i default) (L.getD (i + 1) default) = true) → L.Pairwise fun a b => sLt a b = true
  | [], _ => List.Pairwise.nil
  | [a], _ => List.pairwise_singleton _ _
  | a :: b :: r, h => by
    have ih := asc_pairs (b :: r) (fun i hi => h (i + 1) (by simpa using hi))
    have h0 : sLt a b = true := h 0 (by simp)
    refine List.pairwise_cons.2 ⟨fun c hc => ?_, ih⟩
    rcases List.mem_cons.1 hc with rfl | hc
    · exact h0
    · exact sLt_trans h0 ((List.pairwise_cons.1 ih).1 c hc)
theorem entsOk_pairs {d : Dk} {L : List Et} (h : entsOk d L) : (L.map (·.1)).Pairwise fun a b => sLt a b = true := by
  refine asc_pairs _ fun i hi => ?_
  rw [List.length_map] at hi
  have := (h.1 (i + 1) hi).2.2 (by omega)
  rw [Nat.add_sub_cancel] at this
  have e : ∀ k, k < L.length → (L.map (·.1)).getD k default = (L.getD k default).1 := fun k hk => by
    rw [List.getD_eq_getElem?_getD, List.getElem?_map, List.getElem?_eq_getElem hk, List.getD_eq_getElem?_getD, List.getElem?_eq_getElem hk]; rfl
  rw [e i (by omega), e (i + 1) hi]
  exact this
theorem diskOk_ents {d : Dk} (h : diskOk d) : entsOk d d.2.1 := by
  obtain ⟨h1, h2, h3⟩ := h.2.2 d.2.2.2.1.length (Nat.lt_succ_self _)
  rw [h3 rfl] at h2
  exact h2
theorem entT_has (L : List Et) (n : ByteArray) (h : hasT L n) : ∃ i : Nat, i < L.length ∧ entT L n = (L.getD i default).2 := by
  unfold hasT at h
  rcases placeI_r L n with h1 | ⟨h1, h2⟩
  · omega
  · exact ⟨(placeI L n).toNat, by omega, by unfold entT; rw [if_neg (by omega)]⟩
/-- The node of a name of a right disk is there. -/
theorem node_there {d : Dk} {n : ByteArray} (h : diskOk d) (hn : hasT d.2.1 n) : 0 ≤ nodeI d.1 (entT d.2.1 n) ∧ nodeI d.1 (entT d.2.1 n) < d.1.length := by
  obtain ⟨i, hi, e⟩ := entT_has _ _ hn
  have h1 := ((diskOk_ents h).1 i hi).2.1
  rw [← e] at h1
  rcases nodeI_r d.1 (entT d.2.1 n) with h2 | h2
  · omega
  · exact h2
end Go.Mth

/- Disks made of constants, in plain numbers. -/
namespace Go.Mth
open Go.RowKit

def one : ByteArray := ⟨#[97]⟩
end Go.Mth

/- Bounds of what deeds make, in plain numbers. -/
namespace Go.Mth
open Go.RowKit
set_option linter.unusedVariables false

theorem colI_def (s : ByteArray) : colI s = findI (fun x : Int => decide (x = 58)) ((bytesOf s).drop 1) 1 := rfl
def stNo (s : ByteArray) : Prop := s.size < 2 ∨ (bt s 0 ≠ 43 ∧ bt s 0 ≠ 45 ∧ bt s 0 ≠ 62)
theorem stT_A (s : ByteArray) (h : stNo s) : stT s = (⟨#[]⟩, ⟨#[]⟩, 0, false) := if_pos h
theorem stT_B (s : ByteArray) (h : ¬ stNo s) (h2 : bt s 0 = 45) : stT s = (s.extract 1 s.size, ⟨#[]⟩, 0, true) := by
  unfold stNo at h; unfold stT; rw [if_neg h, if_pos h2]
theorem stT_C (s : ByteArray) (h : ¬ stNo s) (h2 : ¬ bt s 0 = 45) (h3 : colI s = -1) : stT s = (⟨#[]⟩, ⟨#[]⟩, 0, false) := by
  unfold stNo at h; unfold stT; rw [if_neg h, if_neg h2, if_pos (by omega)]
theorem stT_D (s : ByteArray) (h : ¬ stNo s) (h2 : bt s 0 = 62) (c : Nat) (h3 : colI s = (c : Int)) : stT s = (s.extract 1 c, s.extract (c + 1) s.size, 0, decide (nmOk (s.extract (c + 1) s.size)) && !decide (s.extract 1 c = s.extract (c + 1) s.size)) := by
  unfold stNo at h; unfold stT; rw [if_neg h, if_neg (by omega), if_neg (by omega), if_pos h2, h3, Int.toNat_natCast]
theorem stT_E (s : ByteArray) (h : ¬ stNo s) (h2 : bt s 0 = 43) (c : Nat) (h3 : colI s = (c : Int)) : stT s = (s.extract 1 c, ⟨#[]⟩, (rdec (s.extract (c + 1) s.size)).1, (rdec (s.extract (c + 1) s.size)).2 && decide (nmOk (s.extract 1 c))) := by
  unfold stNo at h; unfold stT; rw [if_neg h, if_neg (by omega), if_neg (by omega), if_neg (by omega), h3, Int.toNat_natCast]
theorem ex_le (s : ByteArray) (i j : Nat) : (s.extract i j).size ≤ s.size := by rw [ByteArray.size_extract]; omega
theorem putG_step (e : Et) (d : Bool) (L : List Et) (i : Nat) (h : i < L.length) : putG e d (L.drop i) = (if d = false ∧ sLt (L.getD i default).1 e.1 = false then [e] else []) ++ (if (L.getD i default).1 = e.1 then [] else [L.getD i default]) ++ putG e (d || !sLt (L.getD i default).1 e.1) (L.drop (i + 1)) := by
  rw [List.drop_eq_getElem_cons h, List.getD_eq_getElem?_getD, List.getElem?_eq_getElem h]; rfl
theorem putG_len (e : Et) : ∀ (L : List Et) (d : Bool), (putG e d L).length ≤ L.length + 1
  | [], d => by unfold putG; split <;> simp
  | x :: r, d => by
    unfold putG
    have h1 := putG_len e r (d || !sLt x.1 e.1)
    have h2 : d = true → (putG e true r).length ≤ r.length := fun _ => by
      have : ∀ r : List Et, (putG e true r).length ≤ r.length := fun r => by
        induction r with
        | nil => simp [putG]
        | cons y r ih => simp only [putG, Bool.true_or, List.length_append, List.length_cons, Bool.true_eq_false, false_and, if_false, List.length_nil, Nat.zero_add]; split <;> simp <;> omega
      exact this r
    rw [List.length_append, List.length_append, List.length_cons]
    have h3 : (if x.1 = e.1 then ([] : List Et) else [x]).length ≤ 1 := by split <;> simp
    by_cases hc : d = false ∧ sLt x.1 e.1 = false
    · rw [if_pos hc, hc.1, hc.2]
      have h4 : (putG e true r).length ≤ r.length := by
        have : ∀ r : List Et, (putG e true r).length ≤ r.length := fun r => by
          induction r with
          | nil => simp [putG]
          | cons y r ih => simp only [putG, Bool.true_or, List.length_append, List.length_cons, Bool.true_eq_false, false_and, if_false, List.length_nil, Nat.zero_add]; split <;> simp <;> omega
        exact this r
      simp only [Bool.not_false, Bool.or_true, List.length_singleton] at *
      omega
    · rw [if_neg hc]
      simp only [List.length_nil]
      omega
theorem putT_len (L : List Et) (e : Et) : (putT L e).length ≤ L.length + 1 := putG_len e L false
theorem sdT_no (L : List Et) (s : ByteArray) (h : (stT s).2.2.2 = false ∨ ¬ nmOk (stT s).1 ∨ (¬ bt s 0 = 43 ∧ ¬ hasT L (stT s).1)) : sdT L s = none := by
  unfold sdT
  rw [if_neg]
  rintro ⟨h1, h2, h3⟩
  rcases h with h | h | h
  · rw [h1] at h; exact Bool.noConfusion h
  · exact h h2
  · exact h3.elim h.1 h.2
theorem sdT_43 (L : List Et) (s : ByteArray) (h : (stT s).2.2.2 = true) (hn : nmOk (stT s).1) (hc : bt s 0 = 43) : sdT L s = some (putT L ((stT s).1, (stT s).2.2.1)) := by
  unfold sdT
  rw [if_pos ⟨h, hn, .inl hc⟩, if_pos hc]
theorem sdT_45 (L : List Et) (s : ByteArray) (h : (stT s).2.2.2 = true) (hn : nmOk (stT s).1) (hc : bt s 0 = 45) (hh : hasT L (stT s).1) : sdT L s = some (dropT L (stT s).1) := by
  unfold sdT
  rw [if_pos ⟨h, hn, .inr hh⟩, if_neg (by omega), if_pos hc]
theorem sdT_62 (L : List Et) (s : ByteArray) (h : (stT s).2.2.2 = true) (hn : nmOk (stT s).1) (hc : bt s 0 = 62) (hh : hasT L (stT s).1) : sdT L s = some (putT (dropT L (stT s).1) ((stT s).2.1, entT L (stT s).1)) := by
  unfold sdT
  rw [if_pos ⟨h, hn, .inr hh⟩, if_neg (by omega), if_neg (by omega), if_pos hc]
theorem stT_ok (s : ByteArray) (h : (stT s).2.2.2 = true) : 2 ≤ s.size ∧ (bt s 0 = 43 ∨ bt s 0 = 45 ∨ bt s 0 = 62) := by
  by_cases hn : stNo s
  · rw [stT_A s hn] at h; exact Bool.noConfusion h
  · unfold stNo at hn; omega
theorem stT_le (s : ByteArray) : (stT s).1.size ≤ s.size ∧ (stT s).2.1.size ≤ s.size := by
  have h0 : (⟨#[]⟩ : ByteArray).size = 0 := rfl
  have he := ex_le s
  unfold stT
  split
  · exact ⟨Nat.zero_le _, Nat.zero_le _⟩
  · split
    · exact ⟨he _ _, Nat.zero_le _⟩
    · split
      · exact ⟨Nat.zero_le _, Nat.zero_le _⟩
      · split
        · exact ⟨he _ _, he _ _⟩
        · exact ⟨he _ _, Nat.zero_le _⟩
theorem dropT_len (L : List Et) (n : ByteArray) : (dropT L n).length ≤ L.length := List.length_filter_le _ _
theorem putG_mem (e : Et) : ∀ (L : List Et) (d : Bool) (x : Et), x ∈ putG e d L → x = e ∨ x ∈ L
  | [], d, x, h => by
    unfold putG at h
    split at h
    · simp at h
    · exact .inl (List.mem_singleton.1 h)
  | y :: r, d, x, h => by
    unfold putG at h
    rcases List.mem_append.1 h with h | h
    · rcases List.mem_append.1 h with h | h
      · split at h
        · exact .inl (List.mem_singleton.1 h)
        · simp at h
      · split at h
        · simp at h
        · rw [List.mem_singleton] at h; subst h; exact .inr List.mem_cons_self
    · rcases putG_mem e r _ x h with h | h
      · exact .inl h
      · exact .inr (List.mem_cons_of_mem _ h)
/-- What one step makes of entries of short names: entries of short names, at most one more. -/
theorem sdT_le (L : List Et) (s : ByteArray) (M : List Et) (n : Nat) (h : sdT L s = some M) (hL : ∀ e ∈ L, e.1.size ≤ n) (hs : s.size ≤ n) : M.length ≤ L.length + 1 ∧ ∀ e ∈ M, e.1.size ≤ n := by
  obtain ⟨h1, h2⟩ := stT_le s
  unfold sdT at h
  split at h
  · have h := Option.some.inj h
    subst h
    split
    · exact ⟨putT_len _ _, fun e he => (putG_mem _ _ _ _ he).elim (fun h => by rw [h]; simp only; omega) (hL e)⟩
    · split
      · exact ⟨Nat.le_trans (dropT_len _ _) (Nat.le_succ _), fun e he => hL e (List.mem_filter.1 he).1⟩
      · refine ⟨Nat.le_trans (putT_len _ _) (Nat.succ_le_succ (dropT_len _ _)), fun e he => ?_⟩
        rcases putG_mem _ _ _ _ he with h | h
        · rw [h]; simp only; omega
        · exact hL e (List.mem_filter.1 h).1
  · cases h
theorem sgT_le (n : Nat) : ∀ (S : List ByteArray) (L : List Et), (∀ e ∈ L, e.1.size ≤ n) → (∀ s ∈ S, s.size ≤ n) → (sgT L S).1.length ≤ L.length + S.length ∧ ∀ e ∈ (sgT L S).1, e.1.size ≤ n
  | [], L, h1, _ => ⟨Nat.le_refl _, h1⟩
  | s :: S, L, h1, h2 => by
    unfold sgT
    cases h : sdT L s with
    | none => exact ⟨Nat.zero_le _, fun e he => by simp at he⟩
    | some M =>
      obtain ⟨q1, q2⟩ := sdT_le L s M n h h1 (h2 s List.mem_cons_self)
      obtain ⟨q3, q4⟩ := sgT_le n S M q2 (fun x hx => h2 x (List.mem_cons_of_mem _ hx))
      simp only
      refine ⟨?_, q4⟩
      rw [List.length_cons]
      omega

/-! ### bounds of disks -/
structure DkB (a b : Nat) (d : Dk) : Prop where
  ns : d.1.length ≤ a
  es : d.2.1.length ≤ a
  os : d.2.2.1.length ≤ a
  ss : d.2.2.2.1.length ≤ a
  nt : ∀ n ∈ d.1, n.2.1.size ≤ b
  et : ∀ e ∈ d.2.1, e.1.size ≤ b
  ot : ∀ e ∈ d.2.2.1, e.1.size ≤ b
  st : ∀ s ∈ d.2.2.2.1, s.size ≤ b
theorem DkB.ok {a b : Nat} {d : Dk} (h : DkB a b d) (ha : a ≤ 1048576) (hb : b ≤ 1048576) : DkOk d :=
  ⟨Nat.le_trans h.ns ha, Nat.le_trans h.es ha, Nat.le_trans h.os ha, Nat.le_trans h.ss ha, fun x hx => Nat.le_trans (h.nt x hx) hb, fun x hx => Nat.le_trans (h.et x hx) hb, fun x hx => Nat.le_trans (h.ot x hx) hb, fun x hx => Nat.le_trans (h.st x hx) hb⟩
theorem DkB.mono {a b a' b' : Nat} {d : Dk} (h : DkB a b d) (ha : a ≤ a') (hb : b ≤ b') : DkB a' b' d :=
  ⟨Nat.le_trans h.ns ha, Nat.le_trans h.es ha, Nat.le_trans h.os ha, Nat.le_trans h.ss ha, fun x hx => Nat.le_trans (h.nt x hx) hb, fun x hx => Nat.le_trans (h.et x hx) hb, fun x hx => Nat.le_trans (h.ot x hx) hb, fun x hx => Nat.le_trans (h.st x hx) hb⟩
theorem setNd_W {d : Dk} (h : DkW d) (k : Nat) (x : Nd) (hx : x.2.1.size ≤ 1073741824) : DkW (setNd d k x) := by
  refine ⟨by show (d.1.set k x).length ≤ _; rw [List.length_set]; exact h.ns, h.es, h.os, h.ss, fun y hy => ?_, h.et, h.ot, h.st⟩
  rcases List.mem_or_eq_of_mem_set hy with hy | rfl
  · exact h.nt y hy
  · exact hx
theorem nd_leW {d : Dk} (h : DkW d) (k : Nat) : (d.1.getD k default).2.1.size ≤ 1073741824 := by
  by_cases hk : k < d.1.length
  · rw [List.getD_eq_getElem?_getD, List.getElem?_eq_getElem hk]; exact h.nt _ (List.getElem_mem _)
  · rw [List.getD_eq_getElem?_getD, List.getElem?_eq_none (by omega)]; exact Nat.zero_le _
theorem appendT_W {d : Dk} (h : DkOk d) (n t : ByteArray) (ht : t.size ≤ 1072693248) : DkW (appendT d n t).1 := by
  have hz : (d.1.getD (nodeI d.1 (entT d.2.1 n)).toNat default).2.1.size ≤ 1048576 := by
    generalize (nodeI d.1 (entT d.2.1 n)).toNat = k
    by_cases hk : k < d.1.length
    · rw [List.getD_eq_getElem?_getD, List.getElem?_eq_getElem hk]; exact h.nt _ (List.getElem_mem _)
    · rw [List.getD_eq_getElem?_getD, List.getElem?_eq_none (by omega)]; exact Nat.zero_le _
  unfold appendT
  split
  · exact h.w
  · split
    · refine setNd_W h.w _ _ ?_
      have := ex_le t 0 (d.2.2.2.2.1 - usedT d).toNat
      simp only [ByteArray.size_append]
      omega
    · refine setNd_W h.w _ _ ?_
      simp only [ByteArray.size_append]
      omega
theorem syncT_W {d : Dk} (h : DkW d) (n : ByteArray) : DkW (syncT d n).1 := by
  unfold syncT
  split
  · exact h
  · exact setNd_W h _ _ (nd_leW h _)
theorem flt_snoc {α : Type} [Inhabited α] (p : α → Bool) (L : List α) (i : Nat) (h : i < L.length) : (L.take (i + 1)).filter p = (L.take i).filter p ++ if p (L.getD i default) = true then [L.getD i default] else [] := by
  rw [take_snoc default L i h, List.filter_append]
  congr 1
  show List.filter p [rdOf default L i] = _
  have : rdOf default L (i : Int) = L.getD i default := rfl
  rw [this]
  cases hp : p (L.getD i default)
  · rw [List.filter_cons_of_neg (by rw [hp]; decide)]; rfl
  · rw [List.filter_cons_of_pos hp]; rfl
theorem eq_stp {α : Type} [Inhabited α] (xs ys : List α) (i : Nat) (hl : xs.length = ys.length) (hi : i < xs.length) (h : xs.take i = ys.take i) (he : xs.getD i default = ys.getD i default) : xs.take (i + 1) = ys.take (i + 1) := by
  rw [List.take_succ_eq_append_getElem hi, List.take_succ_eq_append_getElem (by omega), h]
  rw [List.getD_eq_getElem?_getD, List.getD_eq_getElem?_getD, List.getElem?_eq_getElem hi, List.getElem?_eq_getElem (by omega : i < ys.length)] at he
  exact congrArg (fun x => ys.take i ++ [x]) he
end Go.Mth

/- A row that is only read from then on; loops whose head is reached so. -/
namespace Go.Pv
open Go.RowKit
variable {P : Program} {T : Tab} {s : St}

/-- What stands in one state stands in another, too. -/
def Im (s' s : St) : Prop := ∀ (w0 : World) (V M : Bl) (Γ0 : Nat → Value) (h0 : Hp) (a : Act) (w : World), Rel w0 V M Γ0 h0 s a w → Rel w0 V M Γ0 h0 s' a w
theorem Im.sub {s' s : St} (h : Sub s' s) : Im s' s := fun _ _ _ _ _ _ _ R => h.rel R
theorem Im.trans {s3 s2 s1 : St} (h : Im s3 s2) (k : Im s2 s1) : Im s3 s1 := fun _ _ _ _ _ _ _ R => h _ _ _ _ _ _ _ (k _ _ _ _ _ _ _ R)
/-- A row is given up; what named it is a slice that is only read. -/
theorem Im.frz {s : St} (t : Tmp) (k : Nat) {n : Nat} {sz : Sz} {xs : List PV} (h1 : tget s.tm t = .row k n) (h2 : hget s.hp k = some (.row sz xs)) (h3 : n = xs.length) : Im ⟨s.n, (t, .far xs) :: s.tm, (k, .dead) :: s.hp⟩ s := fun w0 V M Γ0 h0 a w ⟨Γ, R⟩ => by
  have C := Chg.kill R (b := k) (by rw [h2]; simp)
  have R2 := C.rel R
  refine ⟨Γ, ⟨R2.kp, R2.defers, R2.size, R2.vlt, fun t' => ?_, R2.hp, R2.dis, R2.own, R2.gr, R2.low⟩⟩
  show VR w (Av V Γ ([(k, .dead)] ++ s.hp)) Γ ([(k, .dead)] ++ s.hp) (tget ((t, .far xs) :: s.tm) t') _
  by_cases e : t' = t
  · subst e
    have e2 : tget ((t', PV.far xs) :: s.tm) t' = .far xs := by simp [tget]
    rw [e2]
    have hx := R.tm t'
    rw [h1] at hx
    obtain ⟨ad, cap, hv, hc, hh⟩ := elems_vr (xs := xs) hx R.hp (by simp only [elems, h2]; rw [if_pos h3])
    rw [hv]
    refine .data ?_
    rcases hh with rfl | ⟨β, o, c, e, fr, z, rfl, hw, hz, hm, hav⟩
    · exact .far0 _ _
    · refine .far xs β o cap z c e fr ?_ hw hc hz (fun i x j y hx hy => (hm i x j y hx hy).1) fun i x j y hx hy => C.dr (hm i x j y hx hy).2
      rcases hav with hav | ⟨g', n', h3, hl, ho⟩
      · intro hb
        refine hav (hb.elim .inl fun ⟨k', l', o'⟩ => .inr ⟨k', (liveK l').2, o'⟩)
      · obtain rfl : g' = k := by
          rcases h3 with h3 | ⟨lo, hi, h3⟩
          · cases h3; rfl
          · cases h3
        intro hb
        rcases hb with hb | ⟨k', l', o'⟩
        · obtain ⟨p1, p2⟩ := R.vlt.1 β hb
          rcases R.own β ⟨g', hl, ho⟩ with p3 | p3
          · omega
          · exact p2 p3
        · exact (liveK l').1 (R.dis k' g' β (liveK l').2 hl o' ho)
  · have e2 : tget ((t, PV.far xs) :: s.tm) t' = tget s.tm t' := by simp [tget, e]
    rw [e2]
    exact R2.tm t'
theorem Im.go {s' s : St} (t : Tmp) (k : Nat) {n : Nat} {sz : Sz} {xs : List PV} (h1 : tget s.tm t = .row k n) (h2 : hget s.hp k = some (.row sz xs)) (h3 : n = xs.length) (h : Sub s' ⟨s.n, (t, .far xs) :: s.tm, (k, .dead) :: s.hp⟩) : Im s' s :=
  (Im.sub h).trans (Im.frz t k h1 h2 h3)

inductive RoundsI (P : Program) (c : Code) (e : PE) (s' : St) : Nat → St → Prop
  | last (n : Nat) (s : St) (h : Sem P c s fun e2 s2 => e2 = e ∧ s2 = s') (he : e ≠ .normal) : RoundsI P c e s' n s
  | more (n : Nat) (s s1 s2 : St) (h : Sem P c s fun e2 s3 => e2 = .normal ∧ s3 = s1) (hs : Im s2 s1) (h2 : RoundsI P c e s' n s2) : RoundsI P c e s' (n + 1) s

theorem RoundsI.sem {c : Code} {e : PE} {s' : St} {n : Nat} (h : RoundsI P c e s' n s) : Sem P (.loop c) s fun e2 s2 => e2 = e ∧ s2 = s' := fun w0 V M Γ0 h0 a w R => by
  refine wp_loop_nat (fun n a w => ∃ s, RoundsI P c e s' n s ∧ Rel w0 V M Γ0 h0 s a w) (n := n) ⟨s, h, R⟩ fun n a w ⟨s, hI, R⟩ => ?_
  cases hI with
  | last _ _ h he =>
    refine wp_mono (h w0 V M Γ0 h0 a w R) fun e' a' w' ⟨s1, R1, q⟩ => ?_
    cases e' <;> first
      | exact q.elim
      | exact absurd q.1.symm he
      | exact ⟨s1, R1, q⟩
  | more n _ s1 s2 h hs h2 =>
    refine wp_mono (h w0 V M Γ0 h0 a w R) fun e' a' w' ⟨s3, R1, q⟩ => ?_
    cases e' <;> first
      | exact q.elim
      | exact PE.noConfusion q.1
      | (obtain ⟨_, rfl⟩ := q; exact ⟨n, Nat.lt_succ_self n, s2, h2, hs _ _ _ _ _ _ _ R1⟩)

/-- A loop whose head is reached by what a state implies. -/
theorem lp_im {α : Type} (inv : α → St) (p : α → Prop) (μ : α → Nat) (x0 : α) {c : Code} {N : St → Prop} {X : Nat → St → Prop} {R : St → Prop} (h1 : Im (inv x0) s) (h2 : p x0)
    (round : ∀ x, p x → ∀ N : St → Prop, (∀ y s1, p y → μ y < μ x → Im (inv y) s1 → N s1) → vc P T c N X R (inv x)) : Lp P T c N X R s := fun hT => by
  have key : ∀ n x, μ x = n → p x → ∃ e s', toQ (fun _ => False) X R e s' ∧ ∃ n, RoundsI P c e s' n (inv x) := fun n => by
    induction n using Nat.strongRecOn with
    | _ n ih =>
      intro x hn hp
      obtain ⟨e, s1, q1, q2⟩ := vc_sound hT c (fun s1 => ∃ y, p y ∧ μ y < μ x ∧ Im (inv y) s1) X R _ (round x hp _ fun y s1 h1 h2 h3 => ⟨y, h1, h2, h3⟩)
      cases e
      case normal =>
        obtain ⟨y, py, hy, hs⟩ := q1
        obtain ⟨e, s', r1, k, r2⟩ := ih (μ y) (by omega) y rfl py
        exact ⟨e, s', r1, k + 1, .more k _ s1 _ q2 hs r2⟩
      · exact ⟨.exit _, s1, q1, 0, .last 0 _ q2 (fun e => PE.noConfusion e)⟩
      · exact ⟨.ret, s1, q1, 0, .last 0 _ q2 (fun e => PE.noConfusion e)⟩
  obtain ⟨e, s', r1, k, r2⟩ := key _ x0 rfl h2
  exact ⟨e, s', r1, fun w0 V M Γ0 h0 a w R => r2.sem w0 V M Γ0 h0 a w (h1 _ _ _ _ _ _ _ R)⟩
end Go.Pv

/- A row gets another key. -/
namespace Go.Pv
open Go.RowKit

def rn1 (k k' : Nat) : PV → PV
  | .row g n => if g = k then .row k' n else .row g n
  | x => x
def rn2 (k k' : Nat) : PV → PV
  | .agg xs => .agg (xs.map (rn1 k k'))
  | x => rn1 k k' x
section
variable {w : World} {V : Bl} {Γ : Nat → Value} {hp : Hp} {k k' : Nat} {sz : Sz} {xs : List PV}
def mvΓ (Γ : Nat → Value) (k k' : Nat) : Nat → Value := fun j => if j = k' then Γ k else Γ j
def mvH (hp : Hp) (k k' : Nat) (c : HC) : Hp := (k', c) :: (k, .dead) :: hp
theorem mv_k' (c : HC) : hget (mvH hp k k' c) k' = some c := by simp [mvH, hget]
theorem mv_k (c : HC) (h : k ≠ k') : hget (mvH hp k k' c) k = some .dead := by simp [mvH, hget, h]
theorem mv_o (c : HC) {j : Nat} (h1 : j ≠ k') (h2 : j ≠ k) : hget (mvH hp k k' c) j = hget hp j := by simp [mvH, hget, h1, h2]
theorem mv_ow (hk : hget hp k = some (.row sz xs)) (hk' : hget hp k' = none) (b : Nat) : Ow (mvΓ Γ k k') (mvH hp k k' (.row sz xs)) b ↔ Ow Γ hp b := by
  have hne : k ≠ k' := fun e => by rw [e, hk'] at hk; cases hk
  constructor
  · rintro ⟨j, l, o⟩
    by_cases e : j = k'
    · subst e
      refine ⟨k, by unfold live; rw [hk]; trivial, ?_⟩
      simpa [mvΓ] using o
    · by_cases e2 : j = k
      · subst e2
        unfold live at l
        rw [mv_k _ hne] at l
        exact l.elim
      · refine ⟨j, by unfold live at l ⊢; rwa [mv_o _ e e2] at l, ?_⟩
        simpa [mvΓ, e] using o
  · rintro ⟨j, l, o⟩
    by_cases e2 : j = k
    · subst e2
      exact ⟨k', by unfold live; rw [mv_k']; trivial, by simpa [mvΓ] using o⟩
    · have e : j ≠ k' := fun e => by subst e; unfold live at l; rw [hk'] at l; exact l
      exact ⟨j, by unfold live at l ⊢; rwa [mv_o _ e e2], by simpa [mvΓ, e] using o⟩
theorem mv_av (hk : hget hp k = some (.row sz xs)) (hk' : hget hp k' = none) (b : Nat) : Av V (mvΓ Γ k k') (mvH hp k k' (.row sz xs)) b ↔ Av V Γ hp b := or_congr Iff.rfl (mv_ow hk hk' b)
theorem mv_dr (hk : hget hp k = some (.row sz xs)) (hk' : hget hp k' = none) {x : PV} {v : Value} (h : DR w (Av V Γ hp) x v) : DR w (Av V (mvΓ Γ k k') (mvH hp k k' (.row sz xs))) x v :=
  h.step (fun _ _ _ => rfl) fun b _ hb => (mv_av hk hk' b).1 hb
/-- What named other keys goes on; what named the old one is not told of any more. -/
theorem mv_vr (hk : hget hp k = some (.row sz xs)) (hk' : hget hp k' = none) {x : PV} {v : Value} (h : VR w (Av V Γ hp) Γ hp x v) : VR w (Av V (mvΓ Γ k k') (mvH hp k k' (.row sz xs))) (mvΓ Γ k k') (mvH hp k k' (.row sz xs)) x v := by
  have hne : k ≠ k' := fun e => by rw [e, hk'] at hk; cases hk
  have nk : ∀ g, hget hp g ≠ none → g ≠ k' := fun g h e => h (e ▸ hk')
  have hg : ∀ g, hget hp g ≠ none → hget (mvH hp k k' (.row sz xs)) g ≠ none := fun g h => by
    by_cases e : g = k
    · subst e; rw [mv_k _ hne]; simp
    · rw [mv_o _ (nk g h) e]; exact h
  have hr : ∀ g c, hget hp g ≠ none → hget (mvH hp k k' (.row sz xs)) g = some c → c ≠ .dead → hget hp g = some c ∧ mvΓ Γ k k' g = Γ g := fun g c h h2 hd => by
    by_cases e : g = k
    · subst e; rw [mv_k _ hne] at h2; cases h2; exact absurd rfl hd
    · rw [mv_o _ (nk g h) e] at h2
      exact ⟨h2, if_neg (nk g h)⟩
  induction h with
  | data h => exact .data (mv_dr hk hk' h)
  | agg ys cs hl _ ih => exact .agg ys cs hl ih
  | tup ys cs hl _ ih => exact .tup ys cs hl ih
  | fn f ys cs hl _ ih => exact .fn f ys cs hl ih
  | row g n v ho h1 h2 => exact .row g n v ho (hg g h1) (fun sz' xs' e => (by obtain ⟨e1, e2⟩ := hr g _ h1 e (by simp); rw [e2]; exact h2 sz' xs' e1))
  | view g n lo hi v ho h1 h2 => exact .view g n lo hi v ho (hg g h1) (fun sz' xs' e => (by obtain ⟨e1, e2⟩ := hr g _ h1 e (by simp); rw [e2]; exact h2 sz' xs' e1))
  | elt g n i off v ho h1 h2 => exact .elt g n i off v ho (hg g h1) (fun sz' xs' e => (by obtain ⟨e1, e2⟩ := hr g _ h1 e (by simp); rw [e2]; exact h2 sz' xs' e1))
  | ref b off v ho h1 h2 => exact .ref b off v ho (hg b h1) (fun q cs e => (by obtain ⟨e1, e2⟩ := hr b _ h1 e (by simp); rw [e2]; exact h2 q cs e1))
theorem mv_rn1 (hk : hget hp k = some (.row sz xs)) (hk' : hget hp k' = none) {x : PV} {v : Value} (h : VR w (Av V Γ hp) Γ hp x v) : VR w (Av V (mvΓ Γ k k') (mvH hp k k' (.row sz xs))) (mvΓ Γ k k') (mvH hp k k' (.row sz xs)) (rn1 k k' x) v := by
  cases x <;> try exact mv_vr hk hk' h
  rename_i g n
  by_cases e : g = k
  · rw [show rn1 k k' (.row g n) = .row k' n from if_pos e]
    subst e
    cases h with
    | data h => cases h
    | row _ _ _ ho h1 h2 =>
      refine .row k' n v ho (by rw [mv_k']; simp) fun sz' xs' e => ?_
      rw [mv_k'] at e
      cases e
      obtain ⟨p1, p2⟩ := h2 sz xs hk
      exact ⟨p1, fun q => by rw [p2 q]; exact (if_pos rfl).symm⟩
  · rw [show rn1 k k' (.row g n) = .row g n from if_neg e]
    exact mv_vr hk hk' h
theorem mv_rn2 (hk : hget hp k = some (.row sz xs)) (hk' : hget hp k' = none) {x : PV} {v : Value} (h : VR w (Av V Γ hp) Γ hp x v) : VR w (Av V (mvΓ Γ k k') (mvH hp k k' (.row sz xs))) (mvΓ Γ k k') (mvH hp k k' (.row sz xs)) (rn2 k k' x) v := by
  cases x <;> try exact mv_rn1 hk hk' h
  rename_i ys
  obtain ⟨cs, rfl, h1, h2⟩ := vr_agg h
  refine .agg _ cs (by rw [List.length_map]; exact h1) fun i y hy => ?_
  rw [List.getElem?_map] at hy
  obtain ⟨z, hz, rfl⟩ := Option.map_eq_some_iff.1 hy
  exact mv_rn1 hk hk' (h2 i z hz)
end
/-- The row of key k, which temporary t names, gets the key k'. -/
theorem Im.ren {s : St} (t : Tmp) (k k' : Nat) {sz : Sz} {xs : List PV} (h1 : hget s.hp k = some (.row sz xs)) (h2 : hget s.hp k' = none) (h3 : 64 ≤ k') : Im ⟨s.n, (t, rn2 k k' (tget s.tm t)) :: s.tm, mvH s.hp k k' (.row sz xs)⟩ s := fun w0 V M Γ0 h0 a w ⟨Γ, R⟩ => by
  have hne : k ≠ k' := fun e => by rw [e, h2] at h1; cases h1
  refine ⟨mvΓ Γ k k', ⟨R.kp, R.defers, R.size, R.vlt, fun t' => ?_, fun j => ?_, fun j j' b l l' o o' => ?_, fun b hb => R.own b ((mv_ow h1 h2 b).1 hb), fun g hg => ?_, R.low⟩⟩
  · show VR w (Av V (mvΓ Γ k k') (mvH s.hp k k' (.row sz xs))) (mvΓ Γ k k') (mvH s.hp k k' (.row sz xs)) (tget ((t, rn2 k k' (tget s.tm t)) :: s.tm) t') _
    by_cases e : t' = t
    · subst e
      have e2 : tget ((t', rn2 k k' (tget s.tm t')) :: s.tm) t' = rn2 k k' (tget s.tm t') := by simp [tget]
      rw [e2]
      exact mv_rn2 h1 h2 (R.tm t')
    · have e2 : tget ((t, rn2 k k' (tget s.tm t)) :: s.tm) t' = tget s.tm t' := by simp [tget, e]
      rw [e2]
      exact mv_vr h1 h2 (R.tm t')
  · show HR w (Av V (mvΓ Γ k k') (mvH s.hp k k' (.row sz xs))) (mvΓ Γ k k') (mvH s.hp k k' (.row sz xs)) j
    by_cases e : j = k'
    · subst e
      have hr := R.hp k
      unfold HR at hr ⊢
      rw [h1] at hr
      rw [mv_k']
      simp only at hr ⊢
      obtain ⟨p0, hr⟩ := hr
      have eΓ : mvΓ Γ k j j = Γ k := if_pos rfl
      rw [eΓ]
      refine ⟨p0, hr.imp id ?_⟩
      rintro ⟨β, o, cap, c, e, fr, q1, q2, q3, q4, q5, q6, q7, q8⟩
      exact ⟨β, o, cap, c, e, fr, q1, q2, q3, q4, q5, q6, q7, fun i x j y hx hy => mv_dr h1 h2 (q8 i x j y hx hy)⟩
    · by_cases e2 : j = k
      · subst e2
        unfold HR
        rw [mv_k _ hne]
        trivial
      · have hr := R.hp j
        unfold HR at hr ⊢
        rw [mv_o _ e e2]
        have eΓ : mvΓ Γ k k' j = Γ j := if_neg e
        rw [eΓ]
        cases hh : hget s.hp j with
        | none => trivial
        | some c =>
          rw [hh] at hr
          cases c with
          | dead => trivial
          | box q cs =>
            obtain ⟨β, c, fr, q1, q2, q3, q4, q5⟩ := hr
            exact ⟨β, c, fr, q1, q2, q3, q4, fun i y hy => mv_vr h1 h2 (q5 i y hy)⟩
          | row sz' xs' =>
            obtain ⟨p0, hr⟩ := hr
            refine ⟨p0, hr.imp id ?_⟩
            rintro ⟨β, o, cap, c, e, fr, q1, q2, q3, q4, q5, q6, q7, q8⟩
            exact ⟨β, o, cap, c, e, fr, q1, q2, q3, q4, q5, q6, q7, fun i x j y hx hy => mv_dr h1 h2 (q8 i x j y hx hy)⟩
  · -- no two keys in one block
    have back : ∀ j, live (mvH s.hp k k' (.row sz xs)) j → ob (mvΓ Γ k k' j) = some b → ∃ i, live s.hp i ∧ ob (Γ i) = some b ∧ (j = k' ∧ i = k ∨ j ≠ k' ∧ i = j ∧ j ≠ k) := fun j l o => by
      by_cases e : j = k'
      · subst e
        exact ⟨k, by unfold live; rw [h1]; trivial, by simpa [mvΓ] using o, .inl ⟨rfl, rfl⟩⟩
      · by_cases e2 : j = k
        · subst e2
          unfold live at l
          rw [mv_k _ hne] at l
          exact l.elim
        · exact ⟨j, by unfold live at l ⊢; rwa [mv_o _ e e2] at l, by simpa [mvΓ, e] using o, .inr ⟨e, rfl, e2⟩⟩
    obtain ⟨i, l1, o1, q1⟩ := back j l o
    obtain ⟨i', l2, o2, q2⟩ := back j' l' o'
    have := R.dis i i' b l1 l2 o1 o2
    subst this
    rcases q1 with ⟨rfl, rfl⟩ | ⟨n1, rfl, n2⟩ <;> rcases q2 with ⟨rfl, e⟩ | ⟨n3, e, n4⟩
    · rfl
    · exact absurd e.symm n4
    · exact absurd e n2
    · exact e
  · obtain ⟨g1, g2, g3⟩ := R.gr g hg
    have hlow := R.low g hg
    have e : g ≠ k' := by omega
    have eΓ : mvΓ Γ k k' g = Γ g := if_neg e
    show hget (mvH s.hp k k' (.row sz xs)) g ≠ none ∧ (∀ sz' xs', hget (mvH s.hp k k' (.row sz xs)) g = some (.row sz' xs') → _) ∧ (∀ q cs, hget (mvH s.hp k k' (.row sz xs)) g = some (.box q cs) → _)
    by_cases e2 : g = k
    · subst e2
      rw [mv_k _ hne]
      exact ⟨by simp, fun _ _ h => (by cases h), fun _ _ h => (by cases h)⟩
    · rw [mv_o _ e e2, eΓ]
      exact ⟨g1, g2, g3⟩
/-- A slice that is nil, within what temporary t names, gets a key: an empty row. -/
theorem Im.nil {s : St} (t : Tmp) (k : Nat) (sz : Sz) (xs : List PV) (i : Nat) (h0 : 0 < sz.sz) (h1 : tget s.tm t = .agg xs) (hi : xs[i]? = some .nils) (h2 : hget s.hp k = none) : Im ⟨s.n, (t, .agg (xs.set i (.row k 0))) :: s.tm, (k, .row sz []) :: s.hp⟩ s := fun w0 V M Γ0 h00 a w ⟨Γ, R⟩ => by
  have hne : ∀ g, hget s.hp g ≠ none → g ≠ k := fun g hg e => hg (e ▸ h2)
  obtain ⟨Γ', hΓk, hΓ⟩ : ∃ Γ' : Nat → Value, Γ' k = .slice none 0 0 ∧ ∀ g, g ≠ k → Γ' g = Γ g := ⟨fun j => if j = k then .slice none 0 0 else Γ j, if_pos rfl, fun g hg => if_neg hg⟩
  have hold : ∀ g, g ≠ k → hget ([(k, HC.row sz [])] ++ s.hp) g = hget s.hp g := fun g hg => by simp [hget, hg]
  have hnew : hget ([(k, HC.row sz [])] ++ s.hp) k = some (.row sz []) := by simp [hget]
  have grow : Grow Γ Γ' s.hp ([(k, HC.row sz [])] ++ s.hp) := fun g hg => by
    rw [hold g (hne g hg), hΓ g (hne g hg)]
    exact ⟨hg, fun sz xs h => ⟨xs, h, Nat.le_refl _, fun _ => rfl⟩, fun _ cs' h => ⟨rfl, cs', h⟩⟩
  have lives : ∀ g, g ≠ k → live ([(k, HC.row sz [])] ++ s.hp) g → live s.hp g := fun g hg h => by unfold live at *; rwa [hold g hg] at h
  have nob : ∀ b, ob (Γ' k) ≠ some b := fun b h => by rw [hΓk] at h; cases h
  have own : ∀ b, Ow Γ' ([(k, HC.row sz [])] ++ s.hp) b → w.heap.size ≤ b ∨ Ow Γ s.hp b := fun b ⟨j, l, o⟩ => by
    by_cases e : j = k
    · subst e; exact absurd o (nob b)
    · rw [hΓ j e] at o; exact .inr ⟨j, lives j e l, o⟩
  have C : Chg V Γ Γ' s.hp ([(k, HC.row sz [])] ++ s.hp) w w := by
    refine ⟨Kp.refl _ _, grow, own, fun j => ?_, fun j j' b l l' e e' => ?_⟩
    · by_cases ek : j = k
      · subst ek
        unfold HR
        rw [hnew]
        exact ⟨h0, .inl ⟨rfl, hΓk⟩⟩
      · exact hr_keep (Kp.refl _ _) grow own (hold j ek) (hΓ j ek) (fun b _ _ _ => rfl) (R.hp j)
    · by_cases ek : j = k
      · subst ek; exact absurd e (nob b)
      · by_cases ek' : j' = k
        · subst ek'; exact absurd e' (nob b)
        · rw [hΓ j ek] at e
          rw [hΓ j' ek'] at e'
          exact R.dis j j' b (lives j ek l) (lives j' ek' l') e e'
  have R2 := C.rel R
  refine ⟨Γ', ⟨R2.kp, R2.defers, R2.size, R2.vlt, fun t' => ?_, R2.hp, R2.dis, R2.own, R2.gr, R2.low⟩⟩
  show VR w (Av V Γ' ([(k, HC.row sz [])] ++ s.hp)) Γ' ([(k, HC.row sz [])] ++ s.hp) (tget ((t, .agg (xs.set i (.row k 0))) :: s.tm) t') _
  by_cases e : t' = t
  · subst e
    have e2 : tget ((t', PV.agg (xs.set i (.row k 0))) :: s.tm) t' = .agg (xs.set i (.row k 0)) := by simp [tget]
    rw [e2]
    have hx : VR w (Av V Γ' ([(k, HC.row sz [])] ++ s.hp)) Γ' ([(k, HC.row sz [])] ++ s.hp) (tget s.tm t') (a.tmps.getD t' undef) := R2.tm t'
    rw [h1] at hx
    obtain ⟨cs, hv, hl, hcs⟩ := vr_agg hx
    rw [hv]
    refine .agg _ cs (by rw [List.length_set]; exact hl) fun j y hy => ?_
    rw [List.getElem?_set] at hy
    split at hy
    · rename_i hj
      subst hj
      split at hy
      · cases hy
        have hn := vr_nils (hcs i .nils hi)
        rw [hn]
        exact .row k 0 _ rfl (by rw [hnew]; simp) fun sz' xs' e => ⟨Nat.zero_le _, fun _ => hΓk.symm⟩
      · cases hy
    · exact hcs j y hy
  · have e2 : tget ((t, PV.agg (xs.set i (.row k 0))) :: s.tm) t' = tget s.tm t' := by simp [tget, e]
    rw [e2]
    exact R2.tm t'
end Go.Pv

/- What functions of the program and of the reference do, in plain values. -/
namespace Go.Pv
open Go.Proofs Go.Mth
set_option linter.unusedSimpArgs false
set_option linter.unusedVariables false
set_option maxHeartbeats 4000000
set_option maxRecDepth 4000

/-! ### the reference's deeds on disks: names, decimals, steps -/
theorem spec_NameOk (b : ByteArray) (hb : b.size ≤ 9223372036854775807) : Fn Tryz.prog 141 [.str b] [] (.bool (decide (nmOk b))) [] := by
  have hlast : (∀ i : Nat, i < b.size → nmB (bt b i)) → nmOk b = (1 ≤ (b.size : Int) ∧ (b.size : Int) ≤ 20) := fun h => propext ⟨fun q => by have := q.2; omega, fun q => ⟨h, by omega⟩⟩
  have hno : ∀ i : Nat, i < b.size → ¬ nmB (bt b i) → nmOk b = False := fun i hi h => propext ⟨fun q => h (q.1 i hi), False.elim⟩
  refine fn_x tok (n := 34) (rs := [.tmp 2]) Tryz.func141 (by decide) rfl rfl rfl rfl ?_
  refine Wr.go ?_
  repeat' ((first | (have ee := True.intro; refine Wr.mk ?_) | ((first | refine br_go ?_ ?_ | refine pick_go ?_ ?_) <;> intro ee f <;> (try simp only [BB] at f) <;> (try simp only [numOk, verOk] at f))) <;> (try simp (maxSteps := 1000000) (disch := first | omega | (simp only [LN, numOk, verOk, rfP, rvP, rhP, frP] <;> omega) | exact Ck.mk rfl) only [ee, VC, T, Nat.reduceMul, Nat.reduceAdd, Nat.reduceSub, Nat.reduceLT, Nat.reduceEqDiff, Nat.reduceLeDiff, Nat.reduceBEq, reduceCtorEq, Int.reduceToNat, ↓reduceIte, rfP, rvP, rhP, frP]) <;> (try clear ee))
  refine lp_go (fun i : Nat => ⟨34, [(0, .str b), (3, .int .i64 i)], []⟩) (fun i => i ≤ b.size ∧ ∀ j : Nat, j < i → nmB (bt b j)) (fun i => b.size - i) 0 ?_ ⟨Nat.zero_le _, fun j h => by omega⟩ ?_
  · (simp (disch := first | omega | (simp only [LN, numOk, verOk] <;> omega) | exact Ck.mk rfl) only [SB, EQ, Nat.reduceMul, Nat.reduceAdd, Nat.reduceSub, Nat.reduceLT, Nat.reduceEqDiff, Nat.reduceLeDiff, Nat.reduceBEq, reduceCtorEq, Int.reduceToNat, ↓reduceIte]; try omega)
  · rintro i ⟨h1, h2⟩ N hN
    have hno := hno i
    have hr := bt_range b i
    have hnx : nmB (bt b i) → ∀ j : Nat, j < i + 1 → nmB (bt b j) := fun h j hj => by
      by_cases e : j = i
      · rw [e]; exact h
      · exact h2 j (by omega)
    have hB : nmB (bt b i) = ((97 ≤ bt b i ∧ bt b i ≤ 122) ∨ (48 ≤ bt b i ∧ bt b i ≤ 57) ∨ bt b i = 46 ∨ bt b i = 45) := rfl
    refine Wr.go ?_
    repeat' ((first | (have ee := True.intro; refine Wr.mk ?_) | ((first | refine br_go ?_ ?_ | refine pick_go ?_ ?_) <;> intro ee f <;> (try simp only [BB] at f) <;> (try simp only [numOk, verOk] at f)) | (have ee := True.intro; first | refine call_x (spec_l01In _ _ _) rfl ⟨rfl⟩ ?_)) <;> (try simp (maxSteps := 1000000) (disch := first | omega | (simp only [LN, numOk, verOk, rfP, rvP, rhP, frP] <;> omega) | exact Ck.mk rfl) only [ee, VC, T, Nat.reduceMul, Nat.reduceAdd, Nat.reduceSub, Nat.reduceLT, Nat.reduceEqDiff, Nat.reduceLeDiff, Nat.reduceBEq, reduceCtorEq, Int.reduceToNat, ↓reduceIte, rfP, rvP, rhP, frP]) <;> (try clear ee))
    all_goals first
      | (refine hN (i + 1) _ ⟨by omega, hnx (by rw [hB]; omega)⟩ (by omega) ?_
         (simp (disch := first | omega | (simp only [LN, numOk, verOk] <;> omega) | exact Ck.mk rfl) only [SB, EQ, Nat.reduceMul, Nat.reduceAdd, Nat.reduceSub, Nat.reduceLT, Nat.reduceEqDiff, Nat.reduceLeDiff, Nat.reduceBEq, reduceCtorEq, Int.reduceToNat, ↓reduceIte]; try omega))
      | (have e := hno (by omega) (by rw [hB]; omega)
         simp only [e, decide_false])
      | (have e := hlast (by
           obtain rfl : i = b.size := by omega
           exact h2)
         simp only [e])
theorem spec_l01Figure (d : Int) (hd : 0 ≤ d ∧ d ≤ 9) : Fn Tryz.prog 192 [.int .i64 d] [] (.int .u8 (48 + d)) [] := by
  refine fn_x tok (n := 12) (rs := [.tmp 2]) Tryz.func192 (by decide) rfl rfl rfl rfl ?_
  refine Wr.go ?_
  repeat' ((first | (have ee := True.intro; refine Wr.mk ?_) | ((first | refine br_go ?_ ?_ | refine pick_go ?_ ?_) <;> intro ee f <;> (try simp only [BB] at f) <;> (try simp only [numOk, verOk] at f))) <;> (try simp (maxSteps := 1000000) (disch := first | omega | (simp only [LN, numOk, verOk, rfP, rvP, rhP, frP] <;> omega) | exact Ck.mk rfl) only [ee, VC, T, Nat.reduceMul, Nat.reduceAdd, Nat.reduceSub, Nat.reduceLT, Nat.reduceEqDiff, Nat.reduceLeDiff, Nat.reduceBEq, reduceCtorEq, Int.reduceToNat, ↓reduceIte, rfP, rvP, rhP, frP]) <;> (try clear ee))
  rw [Int.emod_eq_of_lt (by omega) (by omega)]
theorem decL_zero : ∀ k : Nat, decL k 0 = []
  | 0 => rfl
  | k + 1 => by unfold decL; rw [if_pos rfl]
theorem spec_Decimal (n : Int) (hn : 0 ≤ n ∧ n ≤ 100000000000) : Fn Tryz.prog 183 [.int .i64 n] [] (.str (decT n)) [] := by
  have h0 : n = 0 → decT n = ⟨#[48]⟩ := fun h => by subst h; rfl
  have h1 : ¬ n = 0 → decT n = strOf (decL 20 n) := fun h => if_neg h
  generalize hq : decT n = q at *
  refine fn_x tok (n := 30) (rs := [.tmp 2]) Tryz.func183 (by decide) rfl rfl rfl rfl ?_
  refine Wr.go ?_
  repeat' ((first | (have ee := True.intro; refine Wr.mk ?_) | ((first | refine br_go ?_ ?_ | refine pick_go ?_ ?_) <;> intro ee f <;> (try simp only [BB] at f) <;> (try simp only [numOk, verOk] at f))) <;> (try simp (maxSteps := 1000000) (disch := first | omega | (simp only [LN, numOk, verOk, rfP, rvP, rhP, frP] <;> omega) | exact Ck.mk rfl) only [ee, VC, T, Nat.reduceMul, Nat.reduceAdd, Nat.reduceSub, Nat.reduceLT, Nat.reduceEqDiff, Nat.reduceLeDiff, Nat.reduceBEq, reduceCtorEq, Int.reduceToNat, ↓reduceIte, rfP, rvP, rhP, frP]) <;> (try clear ee))
  · rw [h0 f]
  · refine lp_go (fun x : Int × ByteArray × Nat => ⟨30, [(0, .int .i64 x.1), (3, .bool false), (4, .str x.2.1)], []⟩) (fun x => 0 ≤ x.1 ∧ x.1 ≤ 100000000000 ∧ x.2.2 ≤ 20 ∧ x.2.1.size = 20 - x.2.2 ∧ x.1 < 10 ^ x.2.2 ∧ bytesOf q = decL x.2.2 x.1 ++ bytesOf x.2.1) (fun x => x.2.2) (n, ⟨#[]⟩, 20) ?_ ⟨hn.1, hn.2, Nat.le_refl 20, rfl, by
      have : (10 : Int) ^ 20 = 100000000000000000000 := rfl
      simp only; omega, ?_⟩ ?_
    · (simp (disch := first | omega | (simp only [LN, numOk, verOk] <;> omega) | exact Ck.mk rfl) only [SB, EQ, Nat.reduceMul, Nat.reduceAdd, Nat.reduceSub, Nat.reduceLT, Nat.reduceEqDiff, Nat.reduceLeDiff, Nat.reduceBEq, reduceCtorEq, Int.reduceToNat, ↓reduceIte]; try omega)
      exact decide_eq_false (by omega)
    · simp only
      rw [h1 f, bytesOf_strOf _ (fun x hx => by have := decL_range 20 n x hx; omega)]
      simp [bytesOf]
    · rintro ⟨m, s, k⟩ ⟨q1, q2, q3, q4, q5, q6⟩ N hN
      simp only at q1 q2 q3 q4 q5 q6 hN ⊢
      have hk : ¬ m = 0 → 0 < k := fun h => by
        cases k with
        | zero => simp at q5; omega
        | succ k => omega
      have hmod : m.tmod 10 = m % 10 := Int.tmod_eq_emod_of_nonneg q1
      have hdiv : m.tdiv 10 = m / 10 := Int.tdiv_eq_ediv_of_nonneg q1
      have hst : ¬ m = 0 → m / 10 < 10 ^ (k - 1) ∧ bytesOf q = decL (k - 1) (m / 10) ++ bytesOf (strOf [48 + m % 10] ++ s) := fun h => by
        obtain ⟨j, rfl⟩ : ∃ j, k = j + 1 := ⟨k - 1, by have := hk h; omega⟩
        rw [Nat.add_sub_cancel]
        rw [Int.pow_succ] at q5
        refine ⟨by omega, ?_⟩
        rw [q6, bytesOf_append, bytesOf_strOf _ (fun x hx => by rw [List.mem_singleton] at hx; omega)]
        conv => lhs; unfold decL
        rw [if_neg h, List.append_assoc]
      have hs1 : strP [PV.int .u8 (48 + m % 10)] = strOf [48 + m % 10] := rfl
      have hs2 : (strOf [48 + m % 10]).size = 1 := rfl
      refine Wr.go ?_
      repeat' ((first | (have ee := True.intro; refine Wr.mk ?_) | ((first | refine br_go ?_ ?_ | refine pick_go ?_ ?_) <;> intro ee f <;> (try simp only [BB] at f) <;> (try simp only [numOk, verOk] at f)) | (have ee := True.intro; first | refine call_x (spec_l01Figure _ (by omega)) rfl ⟨rfl⟩ ?_)) <;> (try simp (maxSteps := 1000000) (disch := first | omega | (simp only [LN, numOk, verOk, rfP, rvP, rhP, frP, hmod, hdiv, hs1, hs2] <;> omega) | exact Ck.mk rfl) only [ee, VC, T, Nat.reduceMul, Nat.reduceAdd, Nat.reduceSub, Nat.reduceLT, Nat.reduceEqDiff, Nat.reduceLeDiff, Nat.reduceBEq, reduceCtorEq, Int.reduceToNat, ↓reduceIte, rfP, rvP, rhP, frP, hmod, hdiv, hs1, hs2]) <;> (try clear ee))
      · subst f
        rw [decL_zero, List.nil_append] at q6
        rw [bytesOf_inj q6]
      · refine ⟨fun z hz => ?_, ?_⟩
        · rw [List.mem_singleton] at hz
          subst hz
          show 0 ≤ 48 + m % 10 ∧ 48 + m % 10 < 256
          omega
        · obtain ⟨p1, p2⟩ := hst f
          have hk := hk f
          refine hN (m / 10, strOf [48 + m % 10] ++ s, k - 1) _ ⟨by simp only; omega, by simp only; omega, by simp only; omega, by simp only; rw [ByteArray.size_append, hs2]; omega, p1, p2⟩ (by simp only; omega) ?_
          (simp (disch := first | omega | (simp only [LN, numOk, verOk] <;> omega) | exact Ck.mk rfl) only [SB, EQ, Nat.reduceMul, Nat.reduceAdd, Nat.reduceSub, Nat.reduceLT, Nat.reduceEqDiff, Nat.reduceLeDiff, Nat.reduceBEq, reduceCtorEq, Int.reduceToNat, ↓reduceIte]; try omega)
theorem pow10_le (i : Nat) (h : i ≤ 10) : (10 : Int) ^ i ≤ 10000000000 := by
  have := pow_mono 10 (by decide) h
  simpa using this
theorem rdec_no (t : ByteArray) (h : decN 0 (bytesOf t) = none) : rdec t = (0, false) := by unfold rdec; rw [h]
theorem rdec_so (t : ByteArray) (n : Int) (h : decN 0 (bytesOf t) = some n) : rdec t = if t.size ≤ 10 ∧ n ≤ 1000000000 ∧ decT n = t then (n, true) else (0, false) := by unfold rdec; rw [h]
theorem rdec_big (t : ByteArray) (h : 10 < t.size) : rdec t = (0, false) := by
  cases hd : decN 0 (bytesOf t) with
  | none => exact rdec_no t hd
  | some n => rw [rdec_so t n hd, if_neg (by omega)]
theorem spec_ReadDecimal (t : ByteArray) (ht : t.size ≤ 9223372036854775807) : Fn Tryz.prog 169 [.str t] [] (.tup [.int .i64 (rdec t).1, .bool (rdec t).2]) [] := by
  have hno := rdec_no t
  have hso := rdec_so t
  have hbig := rdec_big t
  have hst := fun n => decN_step n (bytesOf t)
  have hbt : ∀ i : Nat, (bytesOf t).getD i default = bt t i := fun i => rd_bytesOf t i
  generalize rdec t = q at *
  obtain ⟨v, ok⟩ := q
  refine fn_x tok (n := 42) (rs := [.tmp 2, .tmp 3]) Tryz.func169 (by decide) rfl rfl rfl rfl ?_
  refine Wr.go ?_
  repeat' ((first | (have ee := True.intro; refine Wr.mk ?_) | ((first | refine br_go ?_ ?_ | refine pick_go ?_ ?_) <;> intro ee f <;> (try simp only [BB] at f) <;> (try simp only [numOk, verOk] at f))) <;> (try simp (maxSteps := 1000000) (disch := first | omega | (simp only [LN, numOk, verOk, rfP, rvP, rhP, frP] <;> omega) | exact Ck.mk rfl) only [ee, VC, T, Nat.reduceMul, Nat.reduceAdd, Nat.reduceSub, Nat.reduceLT, Nat.reduceEqDiff, Nat.reduceLeDiff, Nat.reduceBEq, reduceCtorEq, Int.reduceToNat, ↓reduceIte, rfP, rvP, rhP, frP]) <;> (try clear ee))
  · cases hbig (by omega); rfl
  · refine lp_go (fun x : Int × Nat => ⟨42, [(0, .str t), (4, .int .i64 x.1), (5, .int .i64 x.2)], []⟩) (fun x => x.2 ≤ t.size ∧ (0 ≤ x.1 ∧ x.1 < 10 ^ x.2) ∧ decN 0 (bytesOf t) = decN x.1 ((bytesOf t).drop x.2)) (fun x => t.size - x.2) (0, 0) ?_ ⟨Nat.zero_le _, ⟨by decide, by decide⟩, rfl⟩ ?_
    · (simp (disch := first | omega | (simp only [LN, numOk, verOk] <;> omega) | exact Ck.mk rfl) only [SB, EQ, Nat.reduceMul, Nat.reduceAdd, Nat.reduceSub, Nat.reduceLT, Nat.reduceEqDiff, Nat.reduceLeDiff, Nat.reduceBEq, reduceCtorEq, Int.reduceToNat, ↓reduceIte]; try omega)
    · rintro ⟨m, i⟩ ⟨h1, ⟨h2, h3⟩, h4⟩ N hN
      simp only at h1 h2 h3 h4 hN
      have hp := pow10_le i (by omega)
      have hps : (10 : Int) ^ (i + 1) = 10 ^ i * 10 := Int.pow_succ 10 i
      have hst := hst m i
      rw [bytesOf_length, hbt] at hst
      have hr := bt_range t i
      have hlt : ∀ d : Int, 0 ≤ d → d < 10 → 0 ≤ 10 * m + d ∧ 10 * m + d < 10 ^ (i + 1) := fun d q0 q1 => by
        rw [hps]
        generalize (10 : Int) ^ i = p at *
        omega
      by_cases hi : i < t.size
      · have hst := hst hi
        generalize hc : bt t i = c at *
        refine Wr.go ?_
        repeat' ((first | (have ee := True.intro; refine Wr.mk ?_) | ((first | refine br_go ?_ ?_ | refine pick_go ?_ ?_) <;> intro ee f <;> (try simp only [BB] at f) <;> (try simp only [numOk, verOk] at f))) <;> (try simp (maxSteps := 1000000) (disch := first | omega | (simp only [LN, numOk, verOk, rfP, rvP, rhP, frP, hc] <;> omega) | exact Ck.mk rfl) only [ee, VC, T, Nat.reduceMul, Nat.reduceAdd, Nat.reduceSub, Nat.reduceLT, Nat.reduceEqDiff, Nat.reduceLeDiff, Nat.reduceBEq, reduceCtorEq, Int.reduceToNat, ↓reduceIte, rfP, rvP, rhP, frP, hc]) <;> (try clear ee))
        · rw [if_neg (by omega)] at hst
          cases hno (h4.trans hst); rfl
        · rw [if_neg (by omega)] at hst
          cases hno (h4.trans hst); rfl
        · rw [if_pos ⟨by omega, by omega⟩] at hst
          refine hN (10 * m + (c - 48), i + 1) _ ⟨by simp only; omega, hlt _ (by omega) (by omega), h4.trans hst⟩ (by simp only; omega) ?_
          (simp (disch := first | omega | (simp only [LN, numOk, verOk] <;> omega) | exact Ck.mk rfl) only [SB, EQ, Nat.reduceMul, Nat.reduceAdd, Nat.reduceSub, Nat.reduceLT, Nat.reduceEqDiff, Nat.reduceLeDiff, Nat.reduceBEq, reduceCtorEq, Int.reduceToNat, ↓reduceIte]; try omega)
      · obtain rfl : i = t.size := by omega
        have h5 : decN 0 (bytesOf t) = some m := by rw [h4, List.drop_eq_nil_of_le (by rw [bytesOf_length]; exact Nat.le_refl _)]; rfl
        have hso := hso m h5
        have hD := spec_Decimal m (by omega)
        generalize decT m = dm at *
        refine Wr.go ?_
        repeat' ((first | (have ee := True.intro; refine Wr.mk ?_) | ((first | refine br_go ?_ ?_ | refine pick_go ?_ ?_) <;> intro ee f <;> (try simp only [BB] at f) <;> (try simp only [numOk, verOk] at f)) | (have ee := True.intro; first | refine call_x (hD) rfl ⟨rfl⟩ ?_)) <;> (try simp (maxSteps := 1000000) (disch := first | omega | (simp only [LN, numOk, verOk, rfP, rvP, rhP, frP] <;> omega) | exact Ck.mk rfl) only [ee, VC, T, Nat.reduceMul, Nat.reduceAdd, Nat.reduceSub, Nat.reduceLT, Nat.reduceEqDiff, Nat.reduceLeDiff, Nat.reduceBEq, reduceCtorEq, Int.reduceToNat, ↓reduceIte, rfP, rvP, rhP, frP]) <;> (try clear ee))
        · rw [if_neg (by omega)] at hso
          cases hso; rfl
        · rename_i f0
          rw [if_pos ⟨by omega, f0, f⟩] at hso
          cases hso; rfl
        · rw [if_neg (fun h => f h.2.2)] at hso
          cases hso; rfl
theorem spec_Brought (n a b : Int) : Fn Tryz.prog 139 [.int .i64 n, .int .i64 a, .int .i64 b] [] (.int .i64 (if b < a ∨ n < a then a else if b < n then b else n)) [] := by
  refine fn_x tok (n := 21) (rs := [.tmp 6]) Tryz.func139 (by decide) rfl rfl rfl rfl ?_
  refine Wr.go ?_
  repeat' ((first | (have ee := True.intro; refine Wr.mk ?_) | ((first | refine br_go ?_ ?_ | refine pick_go ?_ ?_) <;> intro ee f <;> (try simp only [BB] at f) <;> (try simp only [numOk, verOk] at f))) <;> (try simp (maxSteps := 1000000) (disch := first | omega | (simp only [LN, numOk, verOk, rfP, rvP, rhP, frP] <;> omega) | exact Ck.mk rfl) only [ee, VC, T, Nat.reduceMul, Nat.reduceAdd, Nat.reduceSub, Nat.reduceLT, Nat.reduceEqDiff, Nat.reduceLeDiff, Nat.reduceBEq, reduceCtorEq, Int.reduceToNat, ↓reduceIte, rfP, rvP, rhP, frP]) <;> (try clear ee))
  all_goals first
    | rw [if_pos (by omega)]
    | rw [if_neg (by omega), if_pos (by omega)]
    | rw [if_neg (by omega), if_neg (by omega)]
theorem spec_l06Same (xs ys : List Et) (hx : xs.length ≤ 4611686018427387904) : Fn Tryz.prog 106 [.far (xs.map enP), .far (ys.map enP)] [] (.bool (decide (xs = ys))) [] := by
  refine fn_x tok (n := 26) (rs := [.tmp 4]) Tryz.func106 (by decide) rfl rfl rfl rfl ?_
  refine Wr.go ?_
  repeat' ((first | (have ee := True.intro; refine Wr.mk ?_) | ((first | refine br_go ?_ ?_ | refine pick_go ?_ ?_) <;> intro ee f <;> (try simp only [BB] at f) <;> (try simp only [numOk, verOk] at f))) <;> (try simp (maxSteps := 1000000) (disch := first | omega | (simp only [LN, numOk, verOk, rfP, rvP, rhP, frP] <;> omega) | exact Ck.mk rfl) only [ee, VC, T, Nat.reduceMul, Nat.reduceAdd, Nat.reduceSub, Nat.reduceLT, Nat.reduceEqDiff, Nat.reduceLeDiff, Nat.reduceBEq, reduceCtorEq, Int.reduceToNat, ↓reduceIte, rfP, rvP, rhP, frP]) <;> (try clear ee))
  · have hl : xs.length = ys.length := by omega
    refine lp_go (fun i : Nat => ⟨26, [(0, .far (xs.map enP)), (1, .far (ys.map enP)), (5, .int .i64 i)], []⟩) (fun i => i ≤ xs.length ∧ xs.take i = ys.take i) (fun i => xs.length - i) 0 ?_ ⟨Nat.zero_le _, rfl⟩ ?_
    · (simp (disch := first | omega | (simp only [LN, numOk, verOk] <;> omega) | exact Ck.mk rfl) only [SB, EQ, Nat.reduceMul, Nat.reduceAdd, Nat.reduceSub, Nat.reduceLT, Nat.reduceEqDiff, Nat.reduceLeDiff, Nat.reduceBEq, reduceCtorEq, Int.reduceToNat, ↓reduceIte]; try omega)
    · rintro i ⟨h1, h2⟩ N hN
      have hg : ∀ zs : List Et, i < zs.length → (zs.map enP).getD i .junk = .agg [.str (zs.getD i default).1, .int .i64 (zs.getD i default).2] := fun zs h => by
        rw [List.getD_eq_getElem?_getD, List.getElem?_map, List.getElem?_eq_getElem h, List.getD_eq_getElem?_getD, List.getElem?_eq_getElem h]; rfl
      have heq : (xs.getD i default).1 = (ys.getD i default).1 → (xs.getD i default).2 = (ys.getD i default).2 → xs.getD i default = ys.getD i default := fun h1 h2 => Prod.ext h1 h2
      refine Wr.go ?_
      repeat' ((first | (have ee := True.intro; refine Wr.mk ?_) | ((first | refine br_go ?_ ?_ | refine pick_go ?_ ?_) <;> intro ee f <;> (try simp only [BB] at f) <;> (try simp only [numOk, verOk] at f)) | (have ee := True.intro; first | refine dr_go mixed (id := 6) [([], [0], []), ([], [5], []), ([0, 1], [17, 18], []), ([0, 1, 2], [19], []), ([], [1], []), ([], [5], []), ([4, 5], [21, 22], []), ([4, 5, 6], [23], []), ([0, 1, 2, 3, 4, 5, 6, 7], [20, 24], [])] rfl rfl rfl ?_)) <;> (try simp (maxSteps := 1000000) (disch := first | omega | (simp only [LN, numOk, verOk, rfP, rvP, rhP, frP, hg] <;> omega) | exact Ck.mk rfl) only [ee, VC, T, Nat.reduceMul, Nat.reduceAdd, Nat.reduceSub, Nat.reduceLT, Nat.reduceEqDiff, Nat.reduceLeDiff, Nat.reduceBEq, reduceCtorEq, Int.reduceToNat, ↓reduceIte, rfP, rvP, rhP, frP, hg]) <;> (try clear ee))
      · refine hN (i + 1) _ ⟨by omega, eq_stp xs ys i hl (by omega) h2 (heq f.1 f.2)⟩ (by omega) ?_
        (simp (disch := first | omega | (simp only [LN, numOk, verOk] <;> omega) | exact Ck.mk rfl) only [SB, EQ, Nat.reduceMul, Nat.reduceAdd, Nat.reduceSub, Nat.reduceLT, Nat.reduceEqDiff, Nat.reduceLeDiff, Nat.reduceBEq, reduceCtorEq, Int.reduceToNat, ↓reduceIte]; try omega)
      · rw [decide_eq_false fun h => by subst h; rcases f with f | f <;> exact f rfl]
      · rw [List.take_of_length_le (by omega), List.take_of_length_le (by omega)] at h2
        rw [decide_eq_true h2]
  · rw [decide_eq_false fun h => f (by rw [h])]
theorem spec_UsedOn (d : Dk) (h : DkW d) : Fn Tryz.prog 67 [dkP d] [] (.int .i64 (usedT d)) [] := by
  have hns := h.ns
  have hnt := h.nt
  unfold usedT
  obtain ⟨ns, es, os, ss, r, x⟩ := d
  simp only at *
  unfold dkP
  refine fn_x tok (n := 22) (rs := [.tmp 2]) Tryz.func67 (by decide) rfl rfl rfl rfl ?_
  refine Wr.go ?_
  repeat' ((first | (have ee := True.intro; refine Wr.mk ?_) | ((first | refine br_go ?_ ?_ | refine pick_go ?_ ?_) <;> intro ee f <;> (try simp only [BB] at f) <;> (try simp only [numOk, verOk] at f))) <;> (try simp (maxSteps := 1000000) (disch := first | omega | (simp only [LN, numOk, verOk, rfP, rvP, rhP, frP] <;> omega) | exact Ck.mk rfl) only [ee, VC, T, Nat.reduceMul, Nat.reduceAdd, Nat.reduceSub, Nat.reduceLT, Nat.reduceEqDiff, Nat.reduceLeDiff, Nat.reduceBEq, reduceCtorEq, Int.reduceToNat, ↓reduceIte, rfP, rvP, rhP, frP]) <;> (try clear ee))
  refine lp_go (fun i : Nat => ⟨22, [(1, .ref 128 0), (3, .int .i64 ((ns.take i).map fun x => (x.2.1.size : Int)).sum), (4, .int .i64 i)], [(128, .box 35 [.far (ns.map ndP), .far (es.map enP), .far (os.map enP), .far (ss.map .str), .int .i64 r, .int .i64 x])]⟩) (fun i => i ≤ ns.length ∧ 0 ≤ ((ns.take i).map fun x => (x.2.1.size : Int)).sum ∧ ((ns.take i).map fun x => (x.2.1.size : Int)).sum ≤ 1073741824 * i) (fun i => ns.length - i) 0 ?_ ⟨Nat.zero_le _, by simp, by simp⟩ ?_
  · (simp (disch := first | omega | (simp only [LN, numOk, verOk] <;> omega) | exact Ck.mk rfl) only [SB, EQ, Nat.reduceMul, Nat.reduceAdd, Nat.reduceSub, Nat.reduceLT, Nat.reduceEqDiff, Nat.reduceLeDiff, Nat.reduceBEq, reduceCtorEq, Int.reduceToNat, ↓reduceIte]; try omega)
    rfl
  · rintro i ⟨hi, hs1, hs2⟩ N hN
    have hg : i < ns.length → (ns.map ndP).getD i .junk = .agg [.int .i64 (ns.getD i default).1, .str (ns.getD i default).2.1, .int .i64 (ns.getD i default).2.2] := fun h => by
      rw [List.getD_eq_getElem?_getD, List.getElem?_map, List.getElem?_eq_getElem h, List.getD_eq_getElem?_getD, List.getElem?_eq_getElem h]; rfl
    have hsn : i < ns.length → ((ns.take (i + 1)).map fun x => (x.2.1.size : Int)).sum = ((ns.take i).map fun x => (x.2.1.size : Int)).sum + (ns.getD i default).2.1.size := fun h => by
      rw [take_snoc default ns i h, List.map_append, List.sum_append]
      simp [rdOf]
    have hz : i < ns.length → (ns.getD i default).2.1.size ≤ 1073741824 := fun h => by
      rw [List.getD_eq_getElem?_getD, List.getElem?_eq_getElem h]; exact hnt _ (List.getElem_mem h)
    generalize hu : ((ns.take i).map fun x => (x.2.1.size : Int)).sum = u at *
    by_cases h : i < ns.length
    · have hsn := hsn h
      have hz := hz h
      refine Wr.go ?_
      repeat' ((first | (have ee := True.intro; refine Wr.mk ?_) | ((first | refine br_go ?_ ?_ | refine pick_go ?_ ?_) <;> intro ee f <;> (try simp only [BB] at f) <;> (try simp only [numOk, verOk] at f))) <;> (try simp (maxSteps := 1000000) (disch := first | omega | (simp only [LN, numOk, verOk, rfP, rvP, rhP, frP, hg] <;> omega) | exact Ck.mk rfl) only [ee, VC, T, Nat.reduceMul, Nat.reduceAdd, Nat.reduceSub, Nat.reduceLT, Nat.reduceEqDiff, Nat.reduceLeDiff, Nat.reduceBEq, reduceCtorEq, Int.reduceToNat, ↓reduceIte, rfP, rvP, rhP, frP, hg]) <;> (try clear ee))
      refine hN (i + 1) _ ⟨by omega, by rw [hsn]; omega, by rw [hsn]; omega⟩ (by omega) ?_
      rw [hsn]
      (simp (disch := first | omega | (simp only [LN, numOk, verOk] <;> omega) | exact Ck.mk rfl) only [SB, EQ, Nat.reduceMul, Nat.reduceAdd, Nat.reduceSub, Nat.reduceLT, Nat.reduceEqDiff, Nat.reduceLeDiff, Nat.reduceBEq, reduceCtorEq, Int.reduceToNat, ↓reduceIte]; try omega)
    · obtain rfl : i = ns.length := by omega
      refine Wr.go ?_
      repeat' ((first | (have ee := True.intro; refine Wr.mk ?_) | ((first | refine br_go ?_ ?_ | refine pick_go ?_ ?_) <;> intro ee f <;> (try simp only [BB] at f) <;> (try simp only [numOk, verOk] at f))) <;> (try simp (maxSteps := 1000000) (disch := first | omega | (simp only [LN, numOk, verOk, rfP, rvP, rhP, frP] <;> omega) | exact Ck.mk rfl) only [ee, VC, T, Nat.reduceMul, Nat.reduceAdd, Nat.reduceSub, Nat.reduceLT, Nat.reduceEqDiff, Nat.reduceLeDiff, Nat.reduceBEq, reduceCtorEq, Int.reduceToNat, ↓reduceIte, rfP, rvP, rhP, frP]) <;> (try clear ee))
      rw [← hu, List.take_length]
end Go.Pv

/- What functions of the program and of the reference do, in plain values. -/
namespace Go.Pv
open Go.Proofs Go.Mth
set_option linter.unusedSimpArgs false
set_option linter.unusedVariables false
set_option maxHeartbeats 4000000
set_option maxRecDepth 4000

/-! ### the reference's deeds on disks: entries, steps -/
theorem spec_l06Drop_R (L : List Et) (n : ByteArray) (hl : L.length ≤ 16777216) : FnE Tryz.prog 142 [.far (L.map enP), .str n] [] (fun r m => r = .row 64 (dropT L n).length ∧ m = [(64, .row ⟨2, 0⟩ ((dropT L n).map enP))]) := by
  unfold dropT
  refine fn_e tok (n := 29) (rs := [.tmp 4]) Tryz.func142 (by decide) rfl rfl rfl rfl (low_of rfl) ?_
  refine Wr.go ?_
  repeat' ((first | (have ee := True.intro; refine Wr.mk ?_) | ((first | refine br_go ?_ ?_ | refine pick_go ?_ ?_) <;> intro ee f <;> (try simp only [BB] at f) <;> (try simp only [numOk, verOk] at f))) <;> (try simp (maxSteps := 1000000) (disch := first | omega | (simp only [LN, numOk, verOk, rfP, rvP, rhP, frP] <;> omega) | exact Ck.mk rfl) only [ee, VC, T, Nat.reduceMul, Nat.reduceAdd, Nat.reduceSub, Nat.reduceLT, Nat.reduceEqDiff, Nat.reduceLeDiff, Nat.reduceBEq, reduceCtorEq, Int.reduceToNat, ↓reduceIte, rfP, rvP, rhP, frP]) <;> (try clear ee))
  refine lp_go (fun i : Nat => ⟨29, [(0, .far (L.map enP)), (1, .str n), (5, .row 512 ((L.take i).filter fun e => decide (e.1 ≠ n)).length), (6, .int .i64 i)], [(512, .row ⟨2, 0⟩ (((L.take i).filter fun e => decide (e.1 ≠ n)).map enP))]⟩) (fun i => i ≤ L.length) (fun i => L.length - i) 0 ?_ (Nat.zero_le _) ?_
  · (simp (disch := first | omega | (simp only [LN, numOk, verOk] <;> omega) | exact Ck.mk rfl) only [SB, EQ, Nat.reduceMul, Nat.reduceAdd, Nat.reduceSub, Nat.reduceLT, Nat.reduceEqDiff, Nat.reduceLeDiff, Nat.reduceBEq, reduceCtorEq, Int.reduceToNat, ↓reduceIte]; try omega)
    exact ⟨rfl, rfl⟩
  · intro i hi N hN
    have hsn := flt_snoc (fun e : Et => decide (e.1 ≠ n)) L i
    have hfl : ((L.take i).filter fun e => decide (e.1 ≠ n)).length ≤ i := by
      have := List.length_filter_le (fun e : Et => decide (e.1 ≠ n)) (L.take i)
      rw [List.length_take] at this
      omega
    have hg : i < L.length → (L.map enP).getD i .junk = .agg [.str (L.getD i default).1, .int .i64 (L.getD i default).2] := fun h => by
      rw [List.getD_eq_getElem?_getD, List.getElem?_map, List.getElem?_eq_getElem h, List.getD_eq_getElem?_getD, List.getElem?_eq_getElem h]; rfl
    generalize hM : (L.take i).filter (fun e => decide (e.1 ≠ n)) = M at *
    by_cases h : i < L.length
    · have hsn := hsn h
      have hg := hg h
      generalize L.getD i default = p at *
      obtain ⟨b, c⟩ := p
      simp only at *
      have hmap : (M ++ [(b, c)]).map enP = M.map enP ++ [.agg [.str b, .int .i64 c]] := by rw [List.map_append]; rfl
      refine Wr.go ?_
      repeat' ((first | (have ee := True.intro; refine Wr.mk ?_) | ((first | refine br_go ?_ ?_ | refine pick_go ?_ ?_) <;> intro ee f <;> (try simp only [BB] at f) <;> (try simp only [numOk, verOk] at f))) <;> (try simp (maxSteps := 1000000) (disch := first | omega | (simp only [LN, numOk, verOk, rfP, rvP, rhP, frP, hg] <;> omega) | exact Ck.mk rfl) only [ee, VC, T, Nat.reduceMul, Nat.reduceAdd, Nat.reduceSub, Nat.reduceLT, Nat.reduceEqDiff, Nat.reduceLeDiff, Nat.reduceBEq, reduceCtorEq, Int.reduceToNat, ↓reduceIte, rfP, rvP, rhP, frP, hg]) <;> (try clear ee))
      · refine hN (i + 1) _ (by omega) (by omega) ?_
        rw [hsn, if_neg (by rw [decide_eq_false (fun h => h f)]; decide), List.append_nil]
        (simp (disch := first | omega | (simp only [LN, numOk, verOk] <;> omega) | exact Ck.mk rfl) only [SB, EQ, Nat.reduceMul, Nat.reduceAdd, Nat.reduceSub, Nat.reduceLT, Nat.reduceEqDiff, Nat.reduceLeDiff, Nat.reduceBEq, reduceCtorEq, Int.reduceToNat, ↓reduceIte]; try omega)
      · refine hN (i + 1) _ (by omega) (by omega) ?_
        rw [hsn, if_pos (decide_eq_true f), hmap]
        (simp (disch := first | omega | (simp only [LN, numOk, verOk, List.length_append, List.length_cons, List.length_nil] <;> omega) | exact Ck.mk rfl) only [SB, EQ, Nat.reduceMul, Nat.reduceAdd, Nat.reduceSub, Nat.reduceLT, Nat.reduceEqDiff, Nat.reduceLeDiff, Nat.reduceBEq, reduceCtorEq, Int.reduceToNat, ↓reduceIte, List.length_append, List.length_cons, List.length_nil]; try omega)
    · refine Wr.go ?_
      repeat' ((first | (have ee := True.intro; refine Wr.mk ?_) | ((first | refine br_go ?_ ?_ | refine pick_go ?_ ?_) <;> intro ee f <;> (try simp only [BB] at f) <;> (try simp only [numOk, verOk] at f))) <;> (try simp (maxSteps := 1000000) (disch := first | omega | (simp only [LN, numOk, verOk, rfP, rvP, rhP, frP] <;> omega) | exact Ck.mk rfl) only [ee, VC, T, Nat.reduceMul, Nat.reduceAdd, Nat.reduceSub, Nat.reduceLT, Nat.reduceEqDiff, Nat.reduceLeDiff, Nat.reduceBEq, reduceCtorEq, Int.reduceToNat, ↓reduceIte, rfP, rvP, rhP, frP]) <;> (try clear ee))
      obtain rfl : i = L.length := by omega
      rw [List.take_length] at hM
      rw [hM]
      exact fin_t [some 512] (⟨rfl, rfl⟩) rfl (by simp [RV, RV2, RVl, RV1, tau, tget, hget, data1, oneOf]) (by simp [RH, RVl, RV1, tau, hget, data1]) (by simp [Taus, hget])
theorem spec_l06Put_R (L : List Et) (e : Et) (hl : L.length ≤ 16777216) : FnE Tryz.prog 143 [.far (L.map enP), enP e] [] (fun r m => r = .row 64 (putT L e).length ∧ m = [(64, .row ⟨2, 0⟩ ((putT L e).map enP))]) := by
  have hst := fun d => putG_step e d L
  have hen : ∀ d, putG e d [] = if d then [] else [e] := fun _ => rfl
  have hpl := putT_len L e
  generalize hq : putT L e = q at *
  unfold putT at hq
  obtain ⟨en, ei⟩ := e
  unfold enP
  refine fn_e tok (n := 53) (rs := [.tmp 4]) Tryz.func143 (by decide) rfl rfl rfl rfl (low_of rfl) ?_
  refine Wr.go ?_
  repeat' ((first | (have ee := True.intro; refine Wr.mk ?_) | ((first | refine br_go ?_ ?_ | refine pick_go ?_ ?_) <;> intro ee f <;> (try simp only [BB] at f) <;> (try simp only [numOk, verOk] at f))) <;> (try simp (maxSteps := 1000000) (disch := first | omega | (simp only [LN, numOk, verOk, rfP, rvP, rhP, frP] <;> omega) | exact Ck.mk rfl) only [ee, VC, T, Nat.reduceMul, Nat.reduceAdd, Nat.reduceSub, Nat.reduceLT, Nat.reduceEqDiff, Nat.reduceLeDiff, Nat.reduceBEq, reduceCtorEq, Int.reduceToNat, ↓reduceIte, rfP, rvP, rhP, frP]) <;> (try clear ee))
  refine lp_go (fun x : Nat × List Et × Bool => ⟨53, [(0, .far (L.map fun x => .agg [.str x.1, .int .i64 x.2])), (3, .ref 256 0), (5, .row 576 x.2.1.length), (6, .bool x.2.2), (7, .int .i64 x.1)], [(256, .box 101 [.str en, .int .i64 ei]), (576, .row ⟨2, 0⟩ (x.2.1.map fun x => .agg [.str x.1, .int .i64 x.2]))]⟩) (fun x => x.1 ≤ L.length ∧ q = x.2.1 ++ putG (en, ei) x.2.2 (L.drop x.1)) (fun x => L.length - x.1) (0, [], false) ?_ ⟨Nat.zero_le _, hq.symm⟩ ?_
  · (simp (disch := first | omega | (simp only [LN, numOk, verOk] <;> omega) | exact Ck.mk rfl) only [SB, EQ, Nat.reduceMul, Nat.reduceAdd, Nat.reduceSub, Nat.reduceLT, Nat.reduceEqDiff, Nat.reduceLeDiff, Nat.reduceBEq, reduceCtorEq, Int.reduceToNat, ↓reduceIte]; try omega)
  · rintro ⟨i, M, d⟩ ⟨hi, hqq⟩ N hN
    simp only at hi hqq hN
    have hst := hst d i
    have hM1 : M.length ≤ q.length := by rw [hqq, List.length_append]; omega
    have hg : i < L.length → (L.map fun x : Et => PV.agg [.str x.1, .int .i64 x.2]).getD i .junk = .agg [.str (L.getD i default).1, .int .i64 (L.getD i default).2] := fun h => by
      rw [List.getD_eq_getElem?_getD, List.getElem?_map, List.getElem?_eq_getElem h, List.getD_eq_getElem?_getD, List.getElem?_eq_getElem h]; rfl
    by_cases h : i < L.length
    · have hst := hst h
      have hg := hg h
      generalize L.getD i default = p at *
      obtain ⟨b, c⟩ := p
      simp only at *
      refine Wr.go ?_
      repeat' ((first | (have ee := True.intro; refine Wr.mk ?_) | ((first | refine br_go ?_ ?_ | refine pick_go ?_ ?_) <;> intro ee f <;> (try simp only [BB] at f) <;> (try simp only [numOk, verOk] at f)) | (have ee := True.intro; first | refine dr_go mixed (id := 6) [([], [6], []), ([0], [15], []), ([0, 1], [16], []), ([0, 1, 2], [0, 17], []), ([0, 1, 2], [7, 17], []), ([0, 1, 2, 3, 4], [17, 18, 19], []), ([0, 1, 2, 3, 4, 5], [17, 20], []), ([0, 1, 2, 3, 4, 5, 6], [17, 21], []), ([0, 1, 2], [3, 17], []), ([0, 1, 2, 8], [17, 23], []), ([0, 1, 2, 3, 4, 5, 6, 7, 8, 9], [17, 22, 24], []), ([0, 1, 2, 3, 4, 5, 6, 7, 8, 9, 10], [17, 25], [])] rfl rfl rfl ?_ | refine dr_go mixed (id := 9) [([], [0], []), ([], [7], []), ([0, 1], [31, 32], []), ([0, 1, 2], [33], []), ([0, 1, 2, 3], [34], []), ([], [3], []), ([5], [36], []), ([0, 1, 2, 3, 4, 5, 6], [35, 37], [])] rfl rfl rfl ?_)) <;> (try simp (maxSteps := 1000000) (disch := first | omega | (simp only [LN, numOk, verOk, rfP, rvP, rhP, frP, hg] <;> omega) | exact Ck.mk rfl) only [ee, VC, T, Nat.reduceMul, Nat.reduceAdd, Nat.reduceSub, Nat.reduceLT, Nat.reduceEqDiff, Nat.reduceLeDiff, Nat.reduceBEq, reduceCtorEq, Int.reduceToNat, ↓reduceIte, rfP, rvP, rhP, frP, hg]) <;> (try clear ee))
      · rename_i g1
        refine hN (i + 1, M, true) _ ⟨by simp only; omega, ?_⟩ (by simp only; omega) ?_
        · rw [hqq, hst, if_neg (show ¬ (d = false ∧ sLt b en = false) from fun h => by rw [g1] at h; exact Bool.noConfusion h.1), if_pos f, g1]; simp
        · (simp (disch := first | omega | (simp only [LN, numOk, verOk, List.map_append, List.map_cons, List.map_nil, List.length_append, List.length_cons, List.length_nil] <;> omega) | exact Ck.mk rfl) only [SB, EQ, Nat.reduceMul, Nat.reduceAdd, Nat.reduceSub, Nat.reduceLT, Nat.reduceEqDiff, Nat.reduceLeDiff, Nat.reduceBEq, reduceCtorEq, Int.reduceToNat, ↓reduceIte, List.map_append, List.map_cons, List.map_nil, List.length_append, List.length_cons, List.length_nil]; try omega)
      · rename_i g1
        refine hN (i + 1, M ++ [(b, c)], true) _ ⟨by simp only; omega, ?_⟩ (by simp only; omega) ?_
        · rw [hqq, hst, if_neg (show ¬ (d = false ∧ sLt b en = false) from fun h => by rw [g1] at h; exact Bool.noConfusion h.1), if_neg f, g1]; simp
        · (simp (disch := first | omega | (simp only [LN, numOk, verOk, List.map_append, List.map_cons, List.map_nil, List.length_append, List.length_cons, List.length_nil] <;> omega) | exact Ck.mk rfl) only [SB, EQ, Nat.reduceMul, Nat.reduceAdd, Nat.reduceSub, Nat.reduceLT, Nat.reduceEqDiff, Nat.reduceLeDiff, Nat.reduceBEq, reduceCtorEq, Int.reduceToNat, ↓reduceIte, List.map_append, List.map_cons, List.map_nil, List.length_append, List.length_cons, List.length_nil]; try omega)
      · rename_i g1 g2
        have g2 : sLt b en = true := g2
        refine hN (i + 1, M, false) _ ⟨by simp only; omega, ?_⟩ (by simp only; omega) ?_
        · rw [hqq, hst, if_neg (show ¬ (d = false ∧ sLt b en = false) from fun h => by rw [g2] at h; exact Bool.noConfusion h.2), if_pos f, g1, g2]; simp
        · (simp (disch := first | omega | (simp only [LN, numOk, verOk, List.map_append, List.map_cons, List.map_nil, List.length_append, List.length_cons, List.length_nil] <;> omega) | exact Ck.mk rfl) only [SB, EQ, Nat.reduceMul, Nat.reduceAdd, Nat.reduceSub, Nat.reduceLT, Nat.reduceEqDiff, Nat.reduceLeDiff, Nat.reduceBEq, reduceCtorEq, Int.reduceToNat, ↓reduceIte, List.map_append, List.map_cons, List.map_nil, List.length_append, List.length_cons, List.length_nil]; try omega)
      · rename_i g1 g2
        have g2 : sLt b en = true := g2
        refine hN (i + 1, M ++ [(b, c)], false) _ ⟨by simp only; omega, ?_⟩ (by simp only; omega) ?_
        · rw [hqq, hst, if_neg (show ¬ (d = false ∧ sLt b en = false) from fun h => by rw [g2] at h; exact Bool.noConfusion h.2), if_neg f, g1, g2]; simp
        · (simp (disch := first | omega | (simp only [LN, numOk, verOk, List.map_append, List.map_cons, List.map_nil, List.length_append, List.length_cons, List.length_nil] <;> omega) | exact Ck.mk rfl) only [SB, EQ, Nat.reduceMul, Nat.reduceAdd, Nat.reduceSub, Nat.reduceLT, Nat.reduceEqDiff, Nat.reduceLeDiff, Nat.reduceBEq, reduceCtorEq, Int.reduceToNat, ↓reduceIte, List.map_append, List.map_cons, List.map_nil, List.length_append, List.length_cons, List.length_nil]; try omega)
      · rename_i g1 g2
        have g2 : sLt b en = false := g2
        refine hN (i + 1, M ++ [(en, ei)], true) _ ⟨by simp only; omega, ?_⟩ (by simp only; omega) ?_
        · rw [hqq, hst, if_pos (show d = false ∧ sLt b en = false from ⟨g1, g2⟩), if_pos f, g1, g2]; simp
        · (simp (disch := first | omega | (simp only [LN, numOk, verOk, List.map_append, List.map_cons, List.map_nil, List.length_append, List.length_cons, List.length_nil] <;> omega) | exact Ck.mk rfl) only [SB, EQ, Nat.reduceMul, Nat.reduceAdd, Nat.reduceSub, Nat.reduceLT, Nat.reduceEqDiff, Nat.reduceLeDiff, Nat.reduceBEq, reduceCtorEq, Int.reduceToNat, ↓reduceIte, List.map_append, List.map_cons, List.map_nil, List.length_append, List.length_cons, List.length_nil]; try omega)
      · rename_i g1 g2
        have g2 : sLt b en = false := g2
        refine hN (i + 1, M ++ [(en, ei)] ++ [(b, c)], true) _ ⟨by simp only; omega, ?_⟩ (by simp only; omega) ?_
        · rw [hqq, hst, if_pos (show d = false ∧ sLt b en = false from ⟨g1, g2⟩), if_neg f, g1, g2]; simp
        · (simp (disch := first | omega | (simp only [LN, numOk, verOk, List.map_append, List.map_cons, List.map_nil, List.length_append, List.length_cons, List.length_nil] <;> omega) | exact Ck.mk rfl) only [SB, EQ, Nat.reduceMul, Nat.reduceAdd, Nat.reduceSub, Nat.reduceLT, Nat.reduceEqDiff, Nat.reduceLeDiff, Nat.reduceBEq, reduceCtorEq, Int.reduceToNat, ↓reduceIte, List.map_append, List.map_cons, List.map_nil, List.length_append, List.length_cons, List.length_nil]; try omega)
    · rw [List.drop_eq_nil_of_le (by omega), hen] at hqq
      refine Wr.go ?_
      repeat' ((first | (have ee := True.intro; refine Wr.mk ?_) | ((first | refine br_go ?_ ?_ | refine pick_go ?_ ?_) <;> intro ee f <;> (try simp only [BB] at f) <;> (try simp only [numOk, verOk] at f))) <;> (try simp (maxSteps := 1000000) (disch := first | omega | (simp only [LN, numOk, verOk, rfP, rvP, rhP, frP] <;> omega) | exact Ck.mk rfl) only [ee, VC, T, Nat.reduceMul, Nat.reduceAdd, Nat.reduceSub, Nat.reduceLT, Nat.reduceEqDiff, Nat.reduceLeDiff, Nat.reduceBEq, reduceCtorEq, Int.reduceToNat, ↓reduceIte, rfP, rvP, rhP, frP]) <;> (try clear ee))
      · rw [f, if_pos rfl, List.append_nil] at hqq
        subst hqq
        exact fin_t [some 576] (⟨rfl, rfl⟩) rfl (by simp [RV, RV2, RVl, RV1, tau, tget, hget, data1, oneOf]) (by simp [RH, RVl, RV1, tau, hget, data1]) (by simp [Taus, hget])
      · rw [f, if_neg (by decide)] at hqq
        subst hqq
        exact fin_t [some 576] (⟨rfl, rfl⟩) rfl (by simp [RV, RV2, RVl, RV1, tau, tget, hget, data1, oneOf, List.map_append, List.map_cons, List.map_nil, List.length_append, List.length_cons, List.length_nil]) (by simp [RH, RVl, RV1, tau, hget, data1, List.map_append, List.map_cons, List.map_nil, List.length_append, List.length_cons, List.length_nil]) (by simp [Taus, hget, List.map_append, List.map_cons, List.map_nil, List.length_append, List.length_cons, List.length_nil])
end Go.Pv

/- What functions of the program and of the reference do, in plain values. -/
namespace Go.Pv
open Go.Proofs Go.Mth
set_option linter.unusedSimpArgs false
set_option linter.unusedVariables false
set_option maxHeartbeats 4000000
set_option maxRecDepth 4000

/-! ### the reference's deeds on disks: a step, right disks -/
theorem spec_l06Step (s : ByteArray) (hs : s.size ≤ 1048576) : Fn Tryz.prog 140 [.str s] [] (.tup [.str (stT s).1, .str (stT s).2.1, .int .i64 (stT s).2.2.1, .bool (stT s).2.2.2]) [] := by
  have hA := stT_A s
  have hB := stT_B s
  have hC := stT_C s
  have hD := stT_D s
  have hE := stT_E s
  have hci := colI_def s
  have hcs := findI_step (fun x : Int => decide (x = 58)) (bytesOf s)
  have hce := findI_end (fun x : Int => decide (x = 58)) (bytesOf s)
  have hbt : ∀ i : Nat, (bytesOf s).getD i default = bt s i := fun i => rd_bytesOf s i
  have hX : stNo s ↔ (s.size < 2 ∨ (bt s 0 ≠ 43 ∧ bt s 0 ≠ 45 ∧ bt s 0 ≠ 62)) := Iff.rfl
  have hNm := fun b (hb : b.size ≤ s.size) => spec_NameOk b (by omega)
  have hR := fun b (hb : b.size ≤ s.size) => spec_ReadDecimal b (by omega)
  have hel := ex_le s
  generalize stT s = q at *
  obtain ⟨q1, q2, q3, q4⟩ := q
  by_cases hno : stNo s
  · cases hA hno
    rw [hX] at hno
    refine fn_x tok (n := 92) (rs := [.tmp 2, .tmp 3, .tmp 4, .tmp 5]) Tryz.func140 (by decide) rfl rfl rfl rfl ?_
    refine Wr.go ?_
    repeat' ((first | (have ee := True.intro; refine Wr.mk ?_) | ((first | refine br_go ?_ ?_ | refine pick_go ?_ ?_) <;> intro ee f <;> (try simp only [BB] at f) <;> (try simp only [numOk, verOk] at f))) <;> (try simp (maxSteps := 1000000) (disch := first | omega | (simp only [LN, numOk, verOk, rfP, rvP, rhP, frP] <;> omega) | exact Ck.mk rfl) only [ee, VC, T, Nat.reduceMul, Nat.reduceAdd, Nat.reduceSub, Nat.reduceLT, Nat.reduceEqDiff, Nat.reduceLeDiff, Nat.reduceBEq, reduceCtorEq, Int.reduceToNat, ↓reduceIte, rfP, rvP, rhP, frP]) <;> (try clear ee))
    all_goals first | rfl | (exfalso; omega)
  · have hB := hB hno
    have hC := hC hno
    have hD := hD hno
    have hE := hE hno
    rw [hX] at hno
    by_cases h45 : bt s 0 = 45
    · cases hB h45
      refine fn_x tok (n := 92) (rs := [.tmp 2, .tmp 3, .tmp 4, .tmp 5]) Tryz.func140 (by decide) rfl rfl rfl rfl ?_
      refine Wr.go ?_
      repeat' ((first | (have ee := True.intro; refine Wr.mk ?_) | ((first | refine br_go ?_ ?_ | refine pick_go ?_ ?_) <;> intro ee f <;> (try simp only [BB] at f) <;> (try simp only [numOk, verOk] at f))) <;> (try simp (maxSteps := 1000000) (disch := first | omega | (simp only [LN, numOk, verOk, rfP, rvP, rhP, frP] <;> omega) | exact Ck.mk rfl) only [ee, VC, T, Nat.reduceMul, Nat.reduceAdd, Nat.reduceSub, Nat.reduceLT, Nat.reduceEqDiff, Nat.reduceLeDiff, Nat.reduceBEq, reduceCtorEq, Int.reduceToNat, ↓reduceIte, rfP, rvP, rhP, frP]) <;> (try clear ee))
      all_goals first | rfl | (exfalso; omega)
    · have hC := hC h45
      refine fn_x tok (n := 92) (rs := [.tmp 2, .tmp 3, .tmp 4, .tmp 5]) Tryz.func140 (by decide) rfl rfl rfl rfl ?_
      refine Wr.go ?_
      repeat' ((first | (have ee := True.intro; refine Wr.mk ?_) | ((first | refine br_go ?_ ?_ | refine pick_go ?_ ?_) <;> intro ee f <;> (try simp only [BB] at f) <;> (try simp only [numOk, verOk] at f))) <;> (try simp (maxSteps := 1000000) (disch := first | omega | (simp only [LN, numOk, verOk, rfP, rvP, rhP, frP] <;> omega) | exact Ck.mk rfl) only [ee, VC, T, Nat.reduceMul, Nat.reduceAdd, Nat.reduceSub, Nat.reduceLT, Nat.reduceEqDiff, Nat.reduceLeDiff, Nat.reduceBEq, reduceCtorEq, Int.reduceToNat, ↓reduceIte, rfP, rvP, rhP, frP]) <;> (try clear ee))
      · have f0 := f
        refine lp_go (fun i : Nat => ⟨92, [(0, .str s), (6, .int .i64 i)], []⟩) (fun i => 1 ≤ i ∧ i ≤ s.size ∧ colI s = findI (fun x : Int => decide (x = 58)) ((bytesOf s).drop i) i) (fun i => s.size - i) 1 ?_ ⟨Nat.le_refl _, by omega, hci⟩ ?_
        · (simp (disch := first | omega | (simp only [LN, numOk, verOk] <;> omega) | exact Ck.mk rfl) only [SB, EQ, Nat.reduceMul, Nat.reduceAdd, Nat.reduceSub, Nat.reduceLT, Nat.reduceEqDiff, Nat.reduceLeDiff, Nat.reduceBEq, reduceCtorEq, Int.reduceToNat, ↓reduceIte]; try omega)
        · rintro i ⟨h1, h2, h3⟩ N hN
          by_cases hi : i < s.size
          · have hcs := hcs i (by rw [bytesOf_length]; exact hi)
            rw [hbt] at hcs
            by_cases hc : bt s i = 58
            · rw [if_pos (decide_eq_true hc)] at hcs
              cases hE f0 i (h3.trans hcs)
              have hR := hR (s.extract (i + 1) s.size) (hel _ _)
              have hN1 := hNm (s.extract 1 i) (hel _ _)
              have hN2 := hNm (s.extract (i + 1) s.size) (hel _ _)
              generalize rdec (s.extract (i + 1) s.size) = p at *
              obtain ⟨v, ok⟩ := p
              refine Wr.go ?_
              repeat' ((first | (have ee := True.intro; refine Wr.mk ?_) | ((first | refine br_go ?_ ?_ | refine pick_go ?_ ?_) <;> intro ee f <;> (try simp only [BB] at f) <;> (try simp only [numOk, verOk] at f)) | (have ee := True.intro; first | refine dr_go mixed (id := 9) [([], [0], []), ([], [6], []), ([0, 1], [47, 48], []), ([], [0], []), ([], [6], []), ([4], [51], []), ([3, 4, 5], [50, 52], []), ([], [0], []), ([], [6], []), ([8], [55], []), ([7, 8, 9], [54, 56], []), ([7, 8, 9, 10], [57], []), ([7, 8, 9, 10, 11], [58], []), ([7, 8, 9, 10, 11, 12], [0, 59], []), ([7, 8, 9, 10, 11, 12], [6, 59], []), ([7, 8, 9, 10, 11, 12, 13, 14], [59, 60, 61], []), ([7, 8, 9, 10, 11, 12], [0, 59], []), ([7, 8, 9, 10, 11, 12], [6, 59], []), ([7, 8, 9, 10, 11, 12, 17], [59, 64], []), ([7, 8, 9, 10, 11, 12, 16, 17, 18], [59, 63, 65], []), ([7, 8, 9, 10, 11, 12, 13, 14, 15, 16, 17, 18, 19], [59, 62, 66], []), ([7, 8, 9, 10, 11, 12, 13, 14, 15, 16, 17, 18, 19, 20], [59, 67], []), ([0, 1, 2, 7, 8, 9, 10, 11, 12], [49], []), ([0, 1, 2, 3, 4, 5, 6, 7, 8, 9, 10, 11, 12, 22], [53], []), ([0, 1, 2, 3, 4, 5, 6, 7, 8, 9, 10, 11, 12, 22, 23], [], []), ([0, 1, 2, 3, 4, 5, 6, 7, 8, 9, 10, 11, 12, 13, 14, 15, 16, 17, 18, 19, 20, 21, 22, 23, 24], [68], [])] rfl rfl rfl ?_ | refine dr_go mixed (id := 12) [([], [0], []), ([], [6], []), ([0, 1], [81, 82], []), ([], [7], []), ([], [8], []), ([4], [85], []), ([4, 5], [0, 86], []), ([4, 5], [6, 86], []), ([4, 5, 6, 7], [86, 87, 88], []), ([4, 5, 6, 7, 8], [86, 89], []), ([4, 5, 6, 7, 8, 9], [86, 90], []), ([0, 1, 2, 4, 5, 6, 7, 8, 9], [83], []), ([0, 1, 2, 4, 5, 6, 7, 8, 9, 11], [], []), ([0, 1, 2, 3, 4, 5, 6, 7, 8, 9, 11, 12], [84], []), ([0, 1, 2, 3, 4, 5, 6, 7, 8, 9, 10, 11, 12, 13], [91], [])] rfl rfl rfl ?_ | refine call_x (hR) rfl ⟨rfl⟩ ?_ | refine call_x (hN1) rfl ⟨rfl⟩ ?_ | refine call_x (hN2) rfl ⟨rfl⟩ ?_)) <;> (try simp (maxSteps := 1000000) (disch := first | omega | (simp only [LN, numOk, verOk, rfP, rvP, rhP, frP, hc, f0] <;> omega) | exact Ck.mk rfl) only [ee, VC, T, Nat.reduceMul, Nat.reduceAdd, Nat.reduceSub, Nat.reduceLT, Nat.reduceEqDiff, Nat.reduceLeDiff, Nat.reduceBEq, reduceCtorEq, Int.reduceToNat, ↓reduceIte, rfP, rvP, rhP, frP, hc, f0]) <;> (try clear ee))
              all_goals (rw [show ((i : Int) + 1).toNat = i + 1 by omega])
            · rw [if_neg (by rw [decide_eq_false hc]; decide)] at hcs
              refine Wr.go ?_
              repeat' ((first | (have ee := True.intro; refine Wr.mk ?_) | ((first | refine br_go ?_ ?_ | refine pick_go ?_ ?_) <;> intro ee f <;> (try simp only [BB] at f) <;> (try simp only [numOk, verOk] at f)) | (have ee := True.intro; first | refine dr_go mixed (id := 9) [([], [0], []), ([], [6], []), ([0, 1], [47, 48], []), ([], [0], []), ([], [6], []), ([4], [51], []), ([3, 4, 5], [50, 52], []), ([], [0], []), ([], [6], []), ([8], [55], []), ([7, 8, 9], [54, 56], []), ([7, 8, 9, 10], [57], []), ([7, 8, 9, 10, 11], [58], []), ([7, 8, 9, 10, 11, 12], [0, 59], []), ([7, 8, 9, 10, 11, 12], [6, 59], []), ([7, 8, 9, 10, 11, 12, 13, 14], [59, 60, 61], []), ([7, 8, 9, 10, 11, 12], [0, 59], []), ([7, 8, 9, 10, 11, 12], [6, 59], []), ([7, 8, 9, 10, 11, 12, 17], [59, 64], []), ([7, 8, 9, 10, 11, 12, 16, 17, 18], [59, 63, 65], []), ([7, 8, 9, 10, 11, 12, 13, 14, 15, 16, 17, 18, 19], [59, 62, 66], []), ([7, 8, 9, 10, 11, 12, 13, 14, 15, 16, 17, 18, 19, 20], [59, 67], []), ([0, 1, 2, 7, 8, 9, 10, 11, 12], [49], []), ([0, 1, 2, 3, 4, 5, 6, 7, 8, 9, 10, 11, 12, 22], [53], []), ([0, 1, 2, 3, 4, 5, 6, 7, 8, 9, 10, 11, 12, 22, 23], [], []), ([0, 1, 2, 3, 4, 5, 6, 7, 8, 9, 10, 11, 12, 13, 14, 15, 16, 17, 18, 19, 20, 21, 22, 23, 24], [68], [])] rfl rfl rfl ?_ | refine dr_go mixed (id := 12) [([], [0], []), ([], [6], []), ([0, 1], [81, 82], []), ([], [7], []), ([], [8], []), ([4], [85], []), ([4, 5], [0, 86], []), ([4, 5], [6, 86], []), ([4, 5, 6, 7], [86, 87, 88], []), ([4, 5, 6, 7, 8], [86, 89], []), ([4, 5, 6, 7, 8, 9], [86, 90], []), ([0, 1, 2, 4, 5, 6, 7, 8, 9], [83], []), ([0, 1, 2, 4, 5, 6, 7, 8, 9, 11], [], []), ([0, 1, 2, 3, 4, 5, 6, 7, 8, 9, 11, 12], [84], []), ([0, 1, 2, 3, 4, 5, 6, 7, 8, 9, 10, 11, 12, 13], [91], [])] rfl rfl rfl ?_)) <;> (try simp (maxSteps := 1000000) (disch := first | omega | (simp only [LN, numOk, verOk, rfP, rvP, rhP, frP, hc, f0] <;> omega) | exact Ck.mk rfl) only [ee, VC, T, Nat.reduceMul, Nat.reduceAdd, Nat.reduceSub, Nat.reduceLT, Nat.reduceEqDiff, Nat.reduceLeDiff, Nat.reduceBEq, reduceCtorEq, Int.reduceToNat, ↓reduceIte, rfP, rvP, rhP, frP, hc, f0]) <;> (try clear ee))
              refine hN (i + 1) _ ⟨by omega, by omega, h3.trans hcs⟩ (by omega) ?_
              (simp (disch := first | omega | (simp only [LN, numOk, verOk] <;> omega) | exact Ck.mk rfl) only [SB, EQ, Nat.reduceMul, Nat.reduceAdd, Nat.reduceSub, Nat.reduceLT, Nat.reduceEqDiff, Nat.reduceLeDiff, Nat.reduceBEq, reduceCtorEq, Int.reduceToNat, ↓reduceIte]; try omega)
          · have hce := hce i (by rw [bytesOf_length]; omega)
            cases hC (h3.trans hce)
            refine Wr.go ?_
            repeat' ((first | (have ee := True.intro; refine Wr.mk ?_) | ((first | refine br_go ?_ ?_ | refine pick_go ?_ ?_) <;> intro ee f <;> (try simp only [BB] at f) <;> (try simp only [numOk, verOk] at f))) <;> (try simp (maxSteps := 1000000) (disch := first | omega | (simp only [LN, numOk, verOk, rfP, rvP, rhP, frP] <;> omega) | exact Ck.mk rfl) only [ee, VC, T, Nat.reduceMul, Nat.reduceAdd, Nat.reduceSub, Nat.reduceLT, Nat.reduceEqDiff, Nat.reduceLeDiff, Nat.reduceBEq, reduceCtorEq, Int.reduceToNat, ↓reduceIte, rfP, rvP, rhP, frP]) <;> (try clear ee))
      · have f0 : bt s 0 = 62 := by omega
        refine lp_go (fun i : Nat => ⟨92, [(0, .str s), (6, .int .i64 i)], []⟩) (fun i => 1 ≤ i ∧ i ≤ s.size ∧ colI s = findI (fun x : Int => decide (x = 58)) ((bytesOf s).drop i) i) (fun i => s.size - i) 1 ?_ ⟨Nat.le_refl _, by omega, hci⟩ ?_
        · (simp (disch := first | omega | (simp only [LN, numOk, verOk] <;> omega) | exact Ck.mk rfl) only [SB, EQ, Nat.reduceMul, Nat.reduceAdd, Nat.reduceSub, Nat.reduceLT, Nat.reduceEqDiff, Nat.reduceLeDiff, Nat.reduceBEq, reduceCtorEq, Int.reduceToNat, ↓reduceIte]; try omega)
        · rintro i ⟨h1, h2, h3⟩ N hN
          by_cases hi : i < s.size
          · have hcs := hcs i (by rw [bytesOf_length]; exact hi)
            rw [hbt] at hcs
            by_cases hc : bt s i = 58
            · rw [if_pos (decide_eq_true hc)] at hcs
              cases hD f0 i (h3.trans hcs)
              have hR := hR (s.extract (i + 1) s.size) (hel _ _)
              have hN1 := hNm (s.extract 1 i) (hel _ _)
              have hN2 := hNm (s.extract (i + 1) s.size) (hel _ _)
              generalize rdec (s.extract (i + 1) s.size) = p at *
              obtain ⟨v, ok⟩ := p
              refine Wr.go ?_
              repeat' ((first | (have ee := True.intro; refine Wr.mk ?_) | ((first | refine br_go ?_ ?_ | refine pick_go ?_ ?_) <;> intro ee f <;> (try simp only [BB] at f) <;> (try simp only [numOk, verOk] at f)) | (have ee := True.intro; first | refine dr_go mixed (id := 9) [([], [0], []), ([], [6], []), ([0, 1], [47, 48], []), ([], [0], []), ([], [6], []), ([4], [51], []), ([3, 4, 5], [50, 52], []), ([], [0], []), ([], [6], []), ([8], [55], []), ([7, 8, 9], [54, 56], []), ([7, 8, 9, 10], [57], []), ([7, 8, 9, 10, 11], [58], []), ([7, 8, 9, 10, 11, 12], [0, 59], []), ([7, 8, 9, 10, 11, 12], [6, 59], []), ([7, 8, 9, 10, 11, 12, 13, 14], [59, 60, 61], []), ([7, 8, 9, 10, 11, 12], [0, 59], []), ([7, 8, 9, 10, 11, 12], [6, 59], []), ([7, 8, 9, 10, 11, 12, 17], [59, 64], []), ([7, 8, 9, 10, 11, 12, 16, 17, 18], [59, 63, 65], []), ([7, 8, 9, 10, 11, 12, 13, 14, 15, 16, 17, 18, 19], [59, 62, 66], []), ([7, 8, 9, 10, 11, 12, 13, 14, 15, 16, 17, 18, 19, 20], [59, 67], []), ([0, 1, 2, 7, 8, 9, 10, 11, 12], [49], []), ([0, 1, 2, 3, 4, 5, 6, 7, 8, 9, 10, 11, 12, 22], [53], []), ([0, 1, 2, 3, 4, 5, 6, 7, 8, 9, 10, 11, 12, 22, 23], [], []), ([0, 1, 2, 3, 4, 5, 6, 7, 8, 9, 10, 11, 12, 13, 14, 15, 16, 17, 18, 19, 20, 21, 22, 23, 24], [68], [])] rfl rfl rfl ?_ | refine dr_go mixed (id := 12) [([], [0], []), ([], [6], []), ([0, 1], [81, 82], []), ([], [7], []), ([], [8], []), ([4], [85], []), ([4, 5], [0, 86], []), ([4, 5], [6, 86], []), ([4, 5, 6, 7], [86, 87, 88], []), ([4, 5, 6, 7, 8], [86, 89], []), ([4, 5, 6, 7, 8, 9], [86, 90], []), ([0, 1, 2, 4, 5, 6, 7, 8, 9], [83], []), ([0, 1, 2, 4, 5, 6, 7, 8, 9, 11], [], []), ([0, 1, 2, 3, 4, 5, 6, 7, 8, 9, 11, 12], [84], []), ([0, 1, 2, 3, 4, 5, 6, 7, 8, 9, 10, 11, 12, 13], [91], [])] rfl rfl rfl ?_ | refine call_x (hR) rfl ⟨rfl⟩ ?_ | refine call_x (hN1) rfl ⟨rfl⟩ ?_ | refine call_x (hN2) rfl ⟨rfl⟩ ?_)) <;> (try simp (maxSteps := 1000000) (disch := first | omega | (simp only [LN, numOk, verOk, rfP, rvP, rhP, frP, hc, f0] <;> omega) | exact Ck.mk rfl) only [ee, VC, T, Nat.reduceMul, Nat.reduceAdd, Nat.reduceSub, Nat.reduceLT, Nat.reduceEqDiff, Nat.reduceLeDiff, Nat.reduceBEq, reduceCtorEq, Int.reduceToNat, ↓reduceIte, rfP, rvP, rhP, frP, hc, f0]) <;> (try clear ee))
              all_goals (rw [show ((i : Int) + 1).toNat = i + 1 by omega])
            · rw [if_neg (by rw [decide_eq_false hc]; decide)] at hcs
              refine Wr.go ?_
              repeat' ((first | (have ee := True.intro; refine Wr.mk ?_) | ((first | refine br_go ?_ ?_ | refine pick_go ?_ ?_) <;> intro ee f <;> (try simp only [BB] at f) <;> (try simp only [numOk, verOk] at f)) | (have ee := True.intro; first | refine dr_go mixed (id := 9) [([], [0], []), ([], [6], []), ([0, 1], [47, 48], []), ([], [0], []), ([], [6], []), ([4], [51], []), ([3, 4, 5], [50, 52], []), ([], [0], []), ([], [6], []), ([8], [55], []), ([7, 8, 9], [54, 56], []), ([7, 8, 9, 10], [57], []), ([7, 8, 9, 10, 11], [58], []), ([7, 8, 9, 10, 11, 12], [0, 59], []), ([7, 8, 9, 10, 11, 12], [6, 59], []), ([7, 8, 9, 10, 11, 12, 13, 14], [59, 60, 61], []), ([7, 8, 9, 10, 11, 12], [0, 59], []), ([7, 8, 9, 10, 11, 12], [6, 59], []), ([7, 8, 9, 10, 11, 12, 17], [59, 64], []), ([7, 8, 9, 10, 11, 12, 16, 17, 18], [59, 63, 65], []), ([7, 8, 9, 10, 11, 12, 13, 14, 15, 16, 17, 18, 19], [59, 62, 66], []), ([7, 8, 9, 10, 11, 12, 13, 14, 15, 16, 17, 18, 19, 20], [59, 67], []), ([0, 1, 2, 7, 8, 9, 10, 11, 12], [49], []), ([0, 1, 2, 3, 4, 5, 6, 7, 8, 9, 10, 11, 12, 22], [53], []), ([0, 1, 2, 3, 4, 5, 6, 7, 8, 9, 10, 11, 12, 22, 23], [], []), ([0, 1, 2, 3, 4, 5, 6, 7, 8, 9, 10, 11, 12, 13, 14, 15, 16, 17, 18, 19, 20, 21, 22, 23, 24], [68], [])] rfl rfl rfl ?_ | refine dr_go mixed (id := 12) [([], [0], []), ([], [6], []), ([0, 1], [81, 82], []), ([], [7], []), ([], [8], []), ([4], [85], []), ([4, 5], [0, 86], []), ([4, 5], [6, 86], []), ([4, 5, 6, 7], [86, 87, 88], []), ([4, 5, 6, 7, 8], [86, 89], []), ([4, 5, 6, 7, 8, 9], [86, 90], []), ([0, 1, 2, 4, 5, 6, 7, 8, 9], [83], []), ([0, 1, 2, 4, 5, 6, 7, 8, 9, 11], [], []), ([0, 1, 2, 3, 4, 5, 6, 7, 8, 9, 11, 12], [84], []), ([0, 1, 2, 3, 4, 5, 6, 7, 8, 9, 10, 11, 12, 13], [91], [])] rfl rfl rfl ?_)) <;> (try simp (maxSteps := 1000000) (disch := first | omega | (simp only [LN, numOk, verOk, rfP, rvP, rhP, frP, hc, f0] <;> omega) | exact Ck.mk rfl) only [ee, VC, T, Nat.reduceMul, Nat.reduceAdd, Nat.reduceSub, Nat.reduceLT, Nat.reduceEqDiff, Nat.reduceLeDiff, Nat.reduceBEq, reduceCtorEq, Int.reduceToNat, ↓reduceIte, rfP, rvP, rhP, frP, hc, f0]) <;> (try clear ee))
              refine hN (i + 1) _ ⟨by omega, by omega, h3.trans hcs⟩ (by omega) ?_
              (simp (disch := first | omega | (simp only [LN, numOk, verOk] <;> omega) | exact Ck.mk rfl) only [SB, EQ, Nat.reduceMul, Nat.reduceAdd, Nat.reduceSub, Nat.reduceLT, Nat.reduceEqDiff, Nat.reduceLeDiff, Nat.reduceBEq, reduceCtorEq, Int.reduceToNat, ↓reduceIte]; try omega)
          · have hce := hce i (by rw [bytesOf_length]; omega)
            cases hC (h3.trans hce)
            refine Wr.go ?_
            repeat' ((first | (have ee := True.intro; refine Wr.mk ?_) | ((first | refine br_go ?_ ?_ | refine pick_go ?_ ?_) <;> intro ee f <;> (try simp only [BB] at f) <;> (try simp only [numOk, verOk] at f))) <;> (try simp (maxSteps := 1000000) (disch := first | omega | (simp only [LN, numOk, verOk, rfP, rvP, rhP, frP] <;> omega) | exact Ck.mk rfl) only [ee, VC, T, Nat.reduceMul, Nat.reduceAdd, Nat.reduceSub, Nat.reduceLT, Nat.reduceEqDiff, Nat.reduceLeDiff, Nat.reduceBEq, reduceCtorEq, Int.reduceToNat, ↓reduceIte, rfP, rvP, rhP, frP]) <;> (try clear ee))
end Go.Pv

/- What functions of the program and of the reference do, in plain values. -/
namespace Go.Pv
open Go.Proofs Go.Mth
set_option linter.unusedSimpArgs false
set_option linter.unusedVariables false
set_option maxHeartbeats 4000000
set_option maxRecDepth 4000

/-! ### the reference's deeds on disks: steps one by one, right disks -/
theorem nfx_en (L : List Et) : nfx (L.map enP) = True := eq_true (nfx_map _ _ fun a y hy => by
  simp only [enP, flat, List.mem_cons, List.not_mem_nil, or_false] at hy
  rcases hy with rfl | rfl <;> rfl)
theorem nfx_nd (L : List Nd) : nfx (L.map ndP) = True := eq_true (nfx_map _ _ fun a y hy => by
  simp only [ndP, flat, List.mem_cons, List.not_mem_nil, or_false] at hy
  rcases hy with rfl | rfl | rfl <;> rfl)
theorem elOk_en (L : List Et) : elOk 2 (L.map enP) = True := eq_true fun z hz => by
  obtain ⟨a, _, rfl⟩ := List.mem_map.1 hz
  exact ⟨rfl, rfl⟩
theorem elOk_nd (L : List Nd) : elOk 3 (L.map ndP) = True := eq_true fun z hz => by
  obtain ⟨a, _, rfl⟩ := List.mem_map.1 hz
  exact ⟨rfl, rfl⟩
theorem spec_StepsDone_R (L0 : List Et) (S : List ByteArray) (k : Nat) (hL : L0.length ≤ 1048576) (hS : S.length ≤ 1048576) (hz : ∀ s ∈ S, s.size ≤ 1048576) (hn : ∀ e ∈ L0, e.1.size ≤ 1048576) (hk : k ≤ S.length) : FnE Tryz.prog 104 [.far (L0.map enP), .far (S.map .str), .int .i64 k] [] (fun r m => r = .tup [.row 64 (sgT L0 (S.take k)).1.length, .bool (sgT L0 (S.take k)).2] ∧ m = [(64, .row ⟨2, 0⟩ ((sgT L0 (S.take k)).1.map enP))]) := by
  have hB : (if (S.length : Int) < 0 ∨ (k : Int) < 0 then (0 : Int) else if (S.length : Int) < k then (S.length : Int) else (k : Int)) = k := by rw [if_neg (by omega), if_neg (by omega)]
  have hBr := spec_Brought k 0 S.length
  rw [hB] at hBr
  have hst := fun L => sgT_step L (S.take k)
  have hen : ∀ L, sgT L [] = (L, true) := fun _ => rfl
  have hlt : (S.take k).length = k := by rw [List.length_take]; omega
  have hat : ∀ i, i < k → (S.take k).getD i default = S.getD i default := fun i hi => by
    rw [List.getD_eq_getElem?_getD, List.getElem?_take, if_pos hi, List.getD_eq_getElem?_getD]
  have hdk : (S.take k).drop k = [] := List.drop_eq_nil_of_le (by omega)
  generalize S.take k = Z at *
  generalize hq : sgT L0 Z = q at *
  refine fn_e tok (n := 89) (rs := [.tmp 6, .tmp 7]) Tryz.func104 (by decide) rfl rfl rfl rfl (low_of rfl) ?_
  refine Wr.go ?_
  repeat' ((first | (have ee := True.intro; refine Wr.mk ?_) | ((first | refine br_go ?_ ?_ | refine pick_go ?_ ?_) <;> intro ee f <;> (try simp only [BB] at f) <;> (try simp only [numOk, verOk] at f)) | (have ee := True.intro; first | refine call_x (hBr) rfl ⟨rfl⟩ ?_)) <;> (try simp (maxSteps := 1000000) (disch := first | omega | (simp only [LN, numOk, verOk, rfP, rvP, rhP, frP, elOk_en, elOk_nd, nfx_en, nfx_nd] <;> omega) | exact Ck.mk rfl) only [ee, VC, T, Nat.reduceMul, Nat.reduceAdd, Nat.reduceSub, Nat.reduceLT, Nat.reduceEqDiff, Nat.reduceLeDiff, Nat.reduceBEq, reduceCtorEq, Int.reduceToNat, ↓reduceIte, rfP, rvP, rhP, frP, elOk_en, elOk_nd, nfx_en, nfx_nd]) <;> (try clear ee))
  refine lp_im (fun x : Nat × List Et => ⟨89, [(1, .far (S.map .str)), (2, .int .i64 k), (8, .row 960 x.2.length), (9, .int .i64 x.1)], [(960, .row ⟨2, 0⟩ (x.2.map enP))]⟩) (fun x => x.1 ≤ k ∧ (x.2.length ≤ L0.length + x.1 ∧ ∀ e ∈ x.2, e.1.size ≤ 1048576) ∧ q = sgT x.2 (Z.drop x.1)) (fun x => k - x.1) (0, L0) ?_ ⟨Nat.zero_le _, ⟨Nat.le_refl _, hn⟩, hq.symm⟩ ?_
  · refine Im.sub ?_
    (simp (disch := first | omega | (simp only [LN, numOk, verOk] <;> omega) | exact Ck.mk rfl) only [SB, EQ, Nat.reduceMul, Nat.reduceAdd, Nat.reduceSub, Nat.reduceLT, Nat.reduceEqDiff, Nat.reduceLeDiff, Nat.reduceBEq, reduceCtorEq, Int.reduceToNat, ↓reduceIte]; try omega)
  · rintro ⟨i, L⟩ ⟨hi, ⟨hl1, hl2⟩, hqq⟩ N hN
    simp only at hi hl1 hl2 hqq hN
    by_cases h : i < k
    · have hst := hst L i (by omega)
      have hat := hat i h
      rw [hat] at hst
      have hsz : (S.getD i default).size ≤ 1048576 := by
        rw [List.getD_eq_getElem?_getD, List.getElem?_eq_getElem (by omega)]; exact hz _ (List.getElem_mem _)
      generalize hsq : S.getD i default = s at *
      have hle := fun M hM => sdT_le L s M 1048576 hM hl2 hsz
      have hT := spec_l06Step s hsz
      have h1 := sdT_no L s
      have h2 := sdT_43 L s
      have h3 := sdT_45 L s
      have h4 := sdT_62 L s
      have hok := stT_ok s
      have hstl := stT_le s
      have hdl := dropT_len L
      generalize stT s = t at *
      obtain ⟨nm, to, id, ok⟩ := t
      simp only at *
      have hNm := spec_NameOk nm (by omega)
      have hHas := spec_l06Has L nm (by omega)
      have hEnt := spec_EntryAt L nm (by omega)
      have hDr := spec_l06Drop_R L nm (by omega)
      have hP1 : FnE Tryz.prog 143 [.far (L.map enP), .agg [.str nm, .int .i64 id]] [] (fun r m => r = .row 64 (putT L (nm, id)).length ∧ m = [(64, .row ⟨2, 0⟩ ((putT L (nm, id)).map enP))]) := spec_l06Put_R L (nm, id) (by omega)
      have hP2 : FnE Tryz.prog 143 [.far ((dropT L nm).map enP), .agg [.str to, .int .i64 (entT L nm)]] [] (fun r m => r = .row 64 (putT (dropT L nm) (to, entT L nm)).length ∧ m = [(64, .row ⟨2, 0⟩ ((putT (dropT L nm) (to, entT L nm)).map enP))]) := spec_l06Put_R (dropT L nm) (to, entT L nm) (by have := hdl nm; omega)
      have nx : ∀ M, sdT L s = some M → i + 1 ≤ k ∧ (M.length ≤ L0.length + (i + 1) ∧ ∀ e ∈ M, e.1.size ≤ 1048576) ∧ q = sgT M (Z.drop (i + 1)) := fun M hM => ⟨by omega, ⟨by have := (hle M hM).1; omega, (hle M hM).2⟩, by rw [hqq, hst, hM]⟩
      have no : sdT L s = none → q = ([], false) := fun hM => by rw [hqq, hst, hM]
      cases ok with
      | false =>
        cases no (h1 (.inl rfl))
        refine Wr.go ?_
        repeat' ((first | (have ee := True.intro; refine Wr.mk ?_) | ((first | refine br_go ?_ ?_ | refine pick_go ?_ ?_) <;> intro ee f <;> (try simp only [BB] at f) <;> (try simp only [numOk, verOk] at f)) | (have ee := True.intro; first | refine call_x (hT) rfl ⟨rfl⟩ ?_)) <;> (try simp (maxSteps := 1000000) (disch := first | omega | (simp only [LN, numOk, verOk, rfP, rvP, rhP, frP, elOk_en, elOk_nd, nfx_en, nfx_nd, hsq] <;> omega) | exact Ck.mk rfl) only [ee, VC, T, Nat.reduceMul, Nat.reduceAdd, Nat.reduceSub, Nat.reduceLT, Nat.reduceEqDiff, Nat.reduceLeDiff, Nat.reduceBEq, reduceCtorEq, Int.reduceToNat, ↓reduceIte, rfP, rvP, rhP, frP, elOk_en, elOk_nd, nfx_en, nfx_nd, hsq]) <;> (try clear ee))
        all_goals exact fin_t [some 3712] (⟨rfl, rfl⟩) rfl (by simp [RV, RV2, RVl, RV1, tau, tget, hget, data1, oneOf]) (by simp [RH, RVl, RV1, tau, hget, data1]) (by simp [Taus, hget])
      | true =>
        obtain ⟨hok1, hok2⟩ := hok rfl
        by_cases hnm : nmOk nm
        · rw [decide_eq_true hnm] at hNm
          by_cases c43 : bt s 0 = 43
          · have nx := nx _ (h2 rfl hnm c43)
            refine Wr.go ?_
            repeat' ((first | (have ee := True.intro; refine Wr.mk ?_) | ((first | refine br_go ?_ ?_ | refine pick_go ?_ ?_) <;> intro ee f <;> (try simp only [BB] at f) <;> (try simp only [numOk, verOk] at f)) | (have ee := True.intro; first | refine call_x (hT) rfl ⟨rfl⟩ ?_ | refine call_x (hNm) rfl ⟨rfl⟩ ?_ | (refine call_h [] [960] (hP1) (by decide) ?_ rfl ?_; (focus (first | rfl | (simp (maxSteps := 1000000) (disch := first | omega | (simp only [LN, numOk, verOk, rfP, rvP, rhP, frP, elOk_en, elOk_nd, nfx_en, nfx_nd, hsq, c43] <;> omega) | exact Ck.mk rfl) only [VC, T, Nat.reduceMul, Nat.reduceAdd, Nat.reduceSub, Nat.reduceLT, Nat.reduceEqDiff, Nat.reduceLeDiff, Nat.reduceBEq, reduceCtorEq, Int.reduceToNat, ↓reduceIte, rfP, rvP, rhP, frP, elOk_en, elOk_nd, nfx_en, nfx_nd, hsq, c43]; done))); rintro _ _ ⟨rfl, rfl⟩))) <;> (try simp (maxSteps := 1000000) (disch := first | omega | (simp only [LN, numOk, verOk, rfP, rvP, rhP, frP, elOk_en, elOk_nd, nfx_en, nfx_nd, hsq, c43] <;> omega) | exact Ck.mk rfl) only [ee, VC, T, Nat.reduceMul, Nat.reduceAdd, Nat.reduceSub, Nat.reduceLT, Nat.reduceEqDiff, Nat.reduceLeDiff, Nat.reduceBEq, reduceCtorEq, Int.reduceToNat, ↓reduceIte, rfP, rvP, rhP, frP, elOk_en, elOk_nd, nfx_en, nfx_nd, hsq, c43]) <;> (try clear ee))
            refine hN (i + 1, putT L (nm, id)) _ nx (by simp only; omega) (Im.trans (Im.sub ?_) (Im.trans (Im.ren 8 5632 960 (by rfl) (by rfl) (by decide)) (Im.sub (s' := ⟨89, [(1, .far (S.map .str)), (2, .int .i64 k), (8, .row 5632 (putT L (nm, id)).length), (9, .int .i64 ((i : Int) + 1))], [(5632, .row ⟨2, 0⟩ ((putT L (nm, id)).map enP))]⟩) ?_)))
            · (simp (disch := first | omega | (simp only [LN, numOk, verOk, mvH, rn2, rn1] <;> omega) | exact Ck.mk rfl) only [SB, EQ, Nat.reduceMul, Nat.reduceAdd, Nat.reduceSub, Nat.reduceLT, Nat.reduceEqDiff, Nat.reduceLeDiff, Nat.reduceBEq, reduceCtorEq, Int.reduceToNat, ↓reduceIte, mvH, rn2, rn1]; try omega)
            · (simp (disch := first | omega | (simp only [LN, numOk, verOk] <;> omega) | exact Ck.mk rfl) only [SB, EQ, Nat.reduceMul, Nat.reduceAdd, Nat.reduceSub, Nat.reduceLT, Nat.reduceEqDiff, Nat.reduceLeDiff, Nat.reduceBEq, reduceCtorEq, Int.reduceToNat, ↓reduceIte]; try omega)
          · by_cases hh : hasT L nm
            · rw [decide_eq_true (show 0 ≤ placeI L nm from hh)] at hHas
              by_cases c45 : bt s 0 = 45
              · have nx := nx _ (h3 rfl hnm c45 hh)
                refine Wr.go ?_
                repeat' ((first | (have ee := True.intro; refine Wr.mk ?_) | ((first | refine br_go ?_ ?_ | refine pick_go ?_ ?_) <;> intro ee f <;> (try simp only [BB] at f) <;> (try simp only [numOk, verOk] at f)) | (have ee := True.intro; first | refine call_x (hT) rfl ⟨rfl⟩ ?_ | refine call_x (hNm) rfl ⟨rfl⟩ ?_ | (refine call_hx [] [960] (hHas) (by decide) ?_ rfl ?_; (focus (first | rfl | (simp (maxSteps := 1000000) (disch := first | omega | (simp only [LN, numOk, verOk, rfP, rvP, rhP, frP, elOk_en, elOk_nd, nfx_en, nfx_nd, hsq, c45] <;> omega) | exact Ck.mk rfl) only [VC, T, Nat.reduceMul, Nat.reduceAdd, Nat.reduceSub, Nat.reduceLT, Nat.reduceEqDiff, Nat.reduceLeDiff, Nat.reduceBEq, reduceCtorEq, Int.reduceToNat, ↓reduceIte, rfP, rvP, rhP, frP, elOk_en, elOk_nd, nfx_en, nfx_nd, hsq, c45]; done)))) | (refine call_h [] [960] (hDr) (by decide) ?_ rfl ?_; (focus (first | rfl | (simp (maxSteps := 1000000) (disch := first | omega | (simp only [LN, numOk, verOk, rfP, rvP, rhP, frP, elOk_en, elOk_nd, nfx_en, nfx_nd, hsq, c45] <;> omega) | exact Ck.mk rfl) only [VC, T, Nat.reduceMul, Nat.reduceAdd, Nat.reduceSub, Nat.reduceLT, Nat.reduceEqDiff, Nat.reduceLeDiff, Nat.reduceBEq, reduceCtorEq, Int.reduceToNat, ↓reduceIte, rfP, rvP, rhP, frP, elOk_en, elOk_nd, nfx_en, nfx_nd, hsq, c45]; done))); rintro _ _ ⟨rfl, rfl⟩))) <;> (try simp (maxSteps := 1000000) (disch := first | omega | (simp only [LN, numOk, verOk, rfP, rvP, rhP, frP, elOk_en, elOk_nd, nfx_en, nfx_nd, hsq, c45] <;> omega) | exact Ck.mk rfl) only [ee, VC, T, Nat.reduceMul, Nat.reduceAdd, Nat.reduceSub, Nat.reduceLT, Nat.reduceEqDiff, Nat.reduceLeDiff, Nat.reduceBEq, reduceCtorEq, Int.reduceToNat, ↓reduceIte, rfP, rvP, rhP, frP, elOk_en, elOk_nd, nfx_en, nfx_nd, hsq, c45]) <;> (try clear ee))
                refine hN (i + 1, dropT L nm) _ nx (by simp only; omega) (Im.trans (Im.sub ?_) (Im.trans (Im.ren 8 4864 960 (by rfl) (by rfl) (by decide)) (Im.sub (s' := ⟨89, [(1, .far (S.map .str)), (2, .int .i64 k), (8, .row 4864 (dropT L nm).length), (9, .int .i64 ((i : Int) + 1))], [(4864, .row ⟨2, 0⟩ ((dropT L nm).map enP))]⟩) ?_)))
                · (simp (disch := first | omega | (simp only [LN, numOk, verOk, mvH, rn2, rn1] <;> omega) | exact Ck.mk rfl) only [SB, EQ, Nat.reduceMul, Nat.reduceAdd, Nat.reduceSub, Nat.reduceLT, Nat.reduceEqDiff, Nat.reduceLeDiff, Nat.reduceBEq, reduceCtorEq, Int.reduceToNat, ↓reduceIte, mvH, rn2, rn1]; try omega)
                · (simp (disch := first | omega | (simp only [LN, numOk, verOk] <;> omega) | exact Ck.mk rfl) only [SB, EQ, Nat.reduceMul, Nat.reduceAdd, Nat.reduceSub, Nat.reduceLT, Nat.reduceEqDiff, Nat.reduceLeDiff, Nat.reduceBEq, reduceCtorEq, Int.reduceToNat, ↓reduceIte]; try omega)
              · have c62 : bt s 0 = 62 := by omega
                have nx := nx _ (h4 rfl hnm c62 hh)
                refine Wr.go ?_
                repeat' ((first | (have ee := True.intro; refine Wr.mk ?_) | ((first | refine br_go ?_ ?_ | refine pick_go ?_ ?_) <;> intro ee f <;> (try simp only [BB] at f) <;> (try simp only [numOk, verOk] at f)) | (have ee := True.intro; first | refine call_x (hT) rfl ⟨rfl⟩ ?_ | refine call_x (hNm) rfl ⟨rfl⟩ ?_ | (refine call_hx [] [960] (hHas) (by decide) ?_ rfl ?_; (focus (first | rfl | (simp (maxSteps := 1000000) (disch := first | omega | (simp only [LN, numOk, verOk, rfP, rvP, rhP, frP, elOk_en, elOk_nd, nfx_en, nfx_nd, hsq, c62] <;> omega) | exact Ck.mk rfl) only [VC, T, Nat.reduceMul, Nat.reduceAdd, Nat.reduceSub, Nat.reduceLT, Nat.reduceEqDiff, Nat.reduceLeDiff, Nat.reduceBEq, reduceCtorEq, Int.reduceToNat, ↓reduceIte, rfP, rvP, rhP, frP, elOk_en, elOk_nd, nfx_en, nfx_nd, hsq, c62]; done)))) | (refine call_hx [] [960] (hEnt) (by decide) ?_ rfl ?_; (focus (first | rfl | (simp (maxSteps := 1000000) (disch := first | omega | (simp only [LN, numOk, verOk, rfP, rvP, rhP, frP, elOk_en, elOk_nd, nfx_en, nfx_nd, hsq, c62] <;> omega) | exact Ck.mk rfl) only [VC, T, Nat.reduceMul, Nat.reduceAdd, Nat.reduceSub, Nat.reduceLT, Nat.reduceEqDiff, Nat.reduceLeDiff, Nat.reduceBEq, reduceCtorEq, Int.reduceToNat, ↓reduceIte, rfP, rvP, rhP, frP, elOk_en, elOk_nd, nfx_en, nfx_nd, hsq, c62]; done)))) | (refine call_h [] [960] (hDr) (by decide) ?_ rfl ?_; (focus (first | rfl | (simp (maxSteps := 1000000) (disch := first | omega | (simp only [LN, numOk, verOk, rfP, rvP, rhP, frP, elOk_en, elOk_nd, nfx_en, nfx_nd, hsq, c62] <;> omega) | exact Ck.mk rfl) only [VC, T, Nat.reduceMul, Nat.reduceAdd, Nat.reduceSub, Nat.reduceLT, Nat.reduceEqDiff, Nat.reduceLeDiff, Nat.reduceBEq, reduceCtorEq, Int.reduceToNat, ↓reduceIte, rfP, rvP, rhP, frP, elOk_en, elOk_nd, nfx_en, nfx_nd, hsq, c62]; done))); rintro _ _ ⟨rfl, rfl⟩) | (refine call_h [] [4864] (hP2) (by decide) ?_ rfl ?_; (focus (first | rfl | (simp (maxSteps := 1000000) (disch := first | omega | (simp only [LN, numOk, verOk, rfP, rvP, rhP, frP, elOk_en, elOk_nd, nfx_en, nfx_nd, hsq, c62] <;> omega) | exact Ck.mk rfl) only [VC, T, Nat.reduceMul, Nat.reduceAdd, Nat.reduceSub, Nat.reduceLT, Nat.reduceEqDiff, Nat.reduceLeDiff, Nat.reduceBEq, reduceCtorEq, Int.reduceToNat, ↓reduceIte, rfP, rvP, rhP, frP, elOk_en, elOk_nd, nfx_en, nfx_nd, hsq, c62]; done))); rintro _ _ ⟨rfl, rfl⟩))) <;> (try simp (maxSteps := 1000000) (disch := first | omega | (simp only [LN, numOk, verOk, rfP, rvP, rhP, frP, elOk_en, elOk_nd, nfx_en, nfx_nd, hsq, c62] <;> omega) | exact Ck.mk rfl) only [ee, VC, T, Nat.reduceMul, Nat.reduceAdd, Nat.reduceSub, Nat.reduceLT, Nat.reduceEqDiff, Nat.reduceLeDiff, Nat.reduceBEq, reduceCtorEq, Int.reduceToNat, ↓reduceIte, rfP, rvP, rhP, frP, elOk_en, elOk_nd, nfx_en, nfx_nd, hsq, c62]) <;> (try clear ee))
                refine hN (i + 1, putT (dropT L nm) (to, entT L nm)) _ nx (by simp only; omega) (Im.trans (Im.sub ?_) (Im.trans (Im.ren 8 5632 960 (by rfl) (by rfl) (by decide)) (Im.sub (s' := ⟨89, [(1, .far (S.map .str)), (2, .int .i64 k), (8, .row 5632 (putT (dropT L nm) (to, entT L nm)).length), (9, .int .i64 ((i : Int) + 1))], [(5632, .row ⟨2, 0⟩ ((putT (dropT L nm) (to, entT L nm)).map enP))]⟩) ?_)))
                · (simp (disch := first | omega | (simp only [LN, numOk, verOk, mvH, rn2, rn1] <;> omega) | exact Ck.mk rfl) only [SB, EQ, Nat.reduceMul, Nat.reduceAdd, Nat.reduceSub, Nat.reduceLT, Nat.reduceEqDiff, Nat.reduceLeDiff, Nat.reduceBEq, reduceCtorEq, Int.reduceToNat, ↓reduceIte, mvH, rn2, rn1]; try omega)
                · (simp (disch := first | omega | (simp only [LN, numOk, verOk] <;> omega) | exact Ck.mk rfl) only [SB, EQ, Nat.reduceMul, Nat.reduceAdd, Nat.reduceSub, Nat.reduceLT, Nat.reduceEqDiff, Nat.reduceLeDiff, Nat.reduceBEq, reduceCtorEq, Int.reduceToNat, ↓reduceIte]; try omega)
            · rw [decide_eq_false (show ¬ 0 ≤ placeI L nm from hh)] at hHas
              cases no (h1 (.inr (.inr ⟨c43, hh⟩)))
              refine Wr.go ?_
              repeat' ((first | (have ee := True.intro; refine Wr.mk ?_) | ((first | refine br_go ?_ ?_ | refine pick_go ?_ ?_) <;> intro ee f <;> (try simp only [BB] at f) <;> (try simp only [numOk, verOk] at f)) | (have ee := True.intro; first | refine call_x (hT) rfl ⟨rfl⟩ ?_ | refine call_x (hNm) rfl ⟨rfl⟩ ?_ | (refine call_hx [] [960] (hHas) (by decide) ?_ rfl ?_; (focus (first | rfl | (simp (maxSteps := 1000000) (disch := first | omega | (simp only [LN, numOk, verOk, rfP, rvP, rhP, frP, elOk_en, elOk_nd, nfx_en, nfx_nd, hsq] <;> omega) | exact Ck.mk rfl) only [VC, T, Nat.reduceMul, Nat.reduceAdd, Nat.reduceSub, Nat.reduceLT, Nat.reduceEqDiff, Nat.reduceLeDiff, Nat.reduceBEq, reduceCtorEq, Int.reduceToNat, ↓reduceIte, rfP, rvP, rhP, frP, elOk_en, elOk_nd, nfx_en, nfx_nd, hsq]; done)))))) <;> (try simp (maxSteps := 1000000) (disch := first | omega | (simp only [LN, numOk, verOk, rfP, rvP, rhP, frP, elOk_en, elOk_nd, nfx_en, nfx_nd, hsq] <;> omega) | exact Ck.mk rfl) only [ee, VC, T, Nat.reduceMul, Nat.reduceAdd, Nat.reduceSub, Nat.reduceLT, Nat.reduceEqDiff, Nat.reduceLeDiff, Nat.reduceBEq, reduceCtorEq, Int.reduceToNat, ↓reduceIte, rfP, rvP, rhP, frP, elOk_en, elOk_nd, nfx_en, nfx_nd, hsq]) <;> (try clear ee))
              all_goals first | (exfalso; omega) | exact fin_t [some 3712] (⟨rfl, rfl⟩) rfl (by simp [RV, RV2, RVl, RV1, tau, tget, hget, data1, oneOf]) (by simp [RH, RVl, RV1, tau, hget, data1]) (by simp [Taus, hget])
        · rw [decide_eq_false hnm] at hNm
          cases no (h1 (.inr (.inl hnm)))
          refine Wr.go ?_
          repeat' ((first | (have ee := True.intro; refine Wr.mk ?_) | ((first | refine br_go ?_ ?_ | refine pick_go ?_ ?_) <;> intro ee f <;> (try simp only [BB] at f) <;> (try simp only [numOk, verOk] at f)) | (have ee := True.intro; first | refine call_x (hT) rfl ⟨rfl⟩ ?_ | refine call_x (hNm) rfl ⟨rfl⟩ ?_)) <;> (try simp (maxSteps := 1000000) (disch := first | omega | (simp only [LN, numOk, verOk, rfP, rvP, rhP, frP, elOk_en, elOk_nd, nfx_en, nfx_nd, hsq] <;> omega) | exact Ck.mk rfl) only [ee, VC, T, Nat.reduceMul, Nat.reduceAdd, Nat.reduceSub, Nat.reduceLT, Nat.reduceEqDiff, Nat.reduceLeDiff, Nat.reduceBEq, reduceCtorEq, Int.reduceToNat, ↓reduceIte, rfP, rvP, rhP, frP, elOk_en, elOk_nd, nfx_en, nfx_nd, hsq]) <;> (try clear ee))
          all_goals exact fin_t [some 3712] (⟨rfl, rfl⟩) rfl (by simp [RV, RV2, RVl, RV1, tau, tget, hget, data1, oneOf]) (by simp [RH, RVl, RV1, tau, hget, data1]) (by simp [Taus, hget])
    · refine Wr.go ?_
      repeat' ((first | (have ee := True.intro; refine Wr.mk ?_) | ((first | refine br_go ?_ ?_ | refine pick_go ?_ ?_) <;> intro ee f <;> (try simp only [BB] at f) <;> (try simp only [numOk, verOk] at f))) <;> (try simp (maxSteps := 1000000) (disch := first | omega | (simp only [LN, numOk, verOk, rfP, rvP, rhP, frP, elOk_en, elOk_nd, nfx_en, nfx_nd] <;> omega) | exact Ck.mk rfl) only [ee, VC, T, Nat.reduceMul, Nat.reduceAdd, Nat.reduceSub, Nat.reduceLT, Nat.reduceEqDiff, Nat.reduceLeDiff, Nat.reduceBEq, reduceCtorEq, Int.reduceToNat, ↓reduceIte, rfP, rvP, rhP, frP, elOk_en, elOk_nd, nfx_en, nfx_nd]) <;> (try clear ee))
      obtain rfl : i = k := by omega
      rw [hdk, hen] at hqq
      subst hqq
      exact fin_t [some 960] (⟨rfl, rfl⟩) rfl (by simp [RV, RV2, RVl, RV1, tau, tget, hget, data1, oneOf]) (by simp [RH, RVl, RV1, tau, hget, data1]) (by simp [Taus, hget])
theorem spec_StepsDone (L0 : List Et) (S : List ByteArray) (k : Nat) (hL : L0.length ≤ 1048576) (hS : S.length ≤ 1048576) (hz : ∀ s ∈ S, s.size ≤ 1048576) (hn : ∀ e ∈ L0, e.1.size ≤ 1048576) (hk : k ≤ S.length) : Fn Tryz.prog 104 [.far (L0.map enP), .far (S.map .str), .int .i64 k] [] (.tup [.far ((sgT L0 (S.take k)).1.map enP), .bool (sgT L0 (S.take k)).2]) [] := by
  obtain ⟨_, _, ⟨rfl, rfl⟩, k⟩ := spec_StepsDone_R L0 S k hL hS hz hn hk
  refine k.far ?_
  simp [fz, fz2, fz1, cvtl, elems, hget, data1]
end Go.Pv

/- What functions of the program and of the reference do, in plain values. -/
namespace Go.Pv
open Go.Proofs Go.Mth
set_option linter.unusedSimpArgs false
set_option linter.unusedVariables false
set_option maxHeartbeats 4000000
set_option maxRecDepth 4000

/-! ### the reference's deeds on disks: right disks -/
def entB (d : Dk) (L : List Et) (i : Nat) : Prop := nmOk (L.getD i default).1 ∧ 0 ≤ nodeI d.1 (L.getD i default).2 ∧ (0 < i → sLt (L.getD (i - 1) default).1 (L.getD i default).1 = true)
def ndB (d : Dk) (i : Nat) : Prop := (1 ≤ (d.1.getD i default).1 ∧ (d.1.getD i default).1 ≤ d.2.2.2.2.2 - 1) ∧ (0 ≤ (d.1.getD i default).2.2 ∧ (d.1.getD i default).2.2 ≤ (d.1.getD i default).2.1.size) ∧ (0 < i → (d.1.getD (i - 1) default).1 < (d.1.getD i default).1)
def skB (d : Dk) (k : Nat) : Prop := (stepsT d k).2 = true ∧ entsOk d (stepsT d k).1 ∧ (k = d.2.2.2.1.length → (stepsT d k).1 = d.2.1)
theorem spec_l05Entries (d : Dk) (L : List Et) (h : DkW d) (hl : L.length ≤ 16777216) (hz : ∀ e ∈ L, e.1.size ≤ 1048576) : Fn Tryz.prog 105 [dkP d, .far (L.map enP)] [] (.bool (decide (entsOk d L))) [] := by
  have hNd := fun k => spec_l05Node d k (by have := h.ns; omega)
  have hlast : (∀ i : Nat, i < L.length → entB d L i) → entsOk d L = ((L.length : Int) ≤ 16) := fun h => propext ⟨fun q => by have := q.2; omega, fun q => ⟨h, by omega⟩⟩
  have hno : ∀ i : Nat, i < L.length → ¬ entB d L i → entsOk d L = False := fun i hi h => propext ⟨fun q => h (q.1 i hi), False.elim⟩
  have hB : ∀ i, entB d L i = (nmOk (L.getD i default).1 ∧ 0 ≤ nodeI d.1 (L.getD i default).2 ∧ (0 < i → sLt (L.getD (i - 1) default).1 (L.getD i default).1 = true)) := fun i => rfl
  unfold dkP at *
  refine fn_x tok (n := 50) (rs := [.tmp 4]) Tryz.func105 (by decide) rfl rfl rfl rfl ?_
  refine Wr.go ?_
  repeat' ((first | (have ee := True.intro; refine Wr.mk ?_) | ((first | refine br_go ?_ ?_ | refine pick_go ?_ ?_) <;> intro ee f <;> (try simp only [BB] at f) <;> (try simp only [numOk, verOk] at f))) <;> (try simp (maxSteps := 1000000) (disch := first | omega | (simp only [LN, numOk, verOk, rfP, rvP, rhP, frP, elOk_en, elOk_nd, nfx_en, nfx_nd] <;> omega) | exact Ck.mk rfl) only [ee, VC, T, Nat.reduceMul, Nat.reduceAdd, Nat.reduceSub, Nat.reduceLT, Nat.reduceEqDiff, Nat.reduceLeDiff, Nat.reduceBEq, reduceCtorEq, Int.reduceToNat, ↓reduceIte, rfP, rvP, rhP, frP, elOk_en, elOk_nd, nfx_en, nfx_nd]) <;> (try clear ee))
  refine lp_go (fun i : Nat => ⟨50, [(1, .far (L.map enP)), (2, .ref 192 0), (5, .int .i64 i)], [(192, .box 35 [.far (d.1.map ndP), .far (d.2.1.map enP), .far (d.2.2.1.map enP), .far (d.2.2.2.1.map .str), .int .i64 d.2.2.2.2.1, .int .i64 d.2.2.2.2.2])]⟩) (fun i => i ≤ L.length ∧ ∀ j : Nat, j < i → entB d L j) (fun i => L.length - i) 0 ?_ ⟨Nat.zero_le _, fun j h => by omega⟩ ?_
  · (simp (disch := first | omega | (simp only [LN, numOk, verOk] <;> omega) | exact Ck.mk rfl) only [SB, EQ, Nat.reduceMul, Nat.reduceAdd, Nat.reduceSub, Nat.reduceLT, Nat.reduceEqDiff, Nat.reduceLeDiff, Nat.reduceBEq, reduceCtorEq, Int.reduceToNat, ↓reduceIte]; try omega)
    try rfl
  · rintro i ⟨h1, h2⟩ N hN
    have hg : ∀ j, j < L.length → (L.map enP).getD j .junk = .agg [.str (L.getD j default).1, .int .i64 (L.getD j default).2] := fun j h => by
      rw [List.getD_eq_getElem?_getD, List.getElem?_map, List.getElem?_eq_getElem h, List.getD_eq_getElem?_getD, List.getElem?_eq_getElem h]; rfl
    have hnx : entB d L i → ∀ j : Nat, j < i + 1 → entB d L j := fun h j hj => by
      by_cases e : j = i
      · rw [e]; exact h
      · exact h2 j (by omega)
    have hj : 0 < (i : Int) → ((i : Int) - 1).toNat = i - 1 := fun h => by omega
    by_cases hi : i < L.length
    · have hN1 := spec_NameOk (L.getD i default).1 (by have := hz _ (List.getElem_mem hi); rw [List.getD_eq_getElem?_getD, List.getElem?_eq_getElem hi]; simp only [Option.getD_some]; omega)
      have hno := hno i hi
      have hB := hB i
      unfold sLt at hB
      refine Wr.go ?_
      repeat' ((first | (have ee := True.intro; refine Wr.mk ?_) | ((first | refine br_go ?_ ?_ | refine pick_go ?_ ?_) <;> intro ee f <;> (try simp only [BB] at f) <;> (try simp only [numOk, verOk] at f)) | (have ee := True.intro; first | refine dr_go mixed (id := 4) [([], [1], []), ([], [5], []), ([0, 1], [12, 13], []), ([0, 1, 2], [14], []), ([0, 1, 2, 3], [15], []), ([0, 1, 2, 3, 4], [16], []), ([0, 1, 2, 3, 4, 5], [17], []), ([0, 1, 2, 3, 4, 5, 6], [18], []), ([0, 1, 2, 3, 4, 5, 6, 7], [2, 19], []), ([0, 1, 2, 3, 4, 5, 6, 7], [1, 19], []), ([0, 1, 2, 3, 4, 5, 6, 7], [5, 19], []), ([0, 1, 2, 3, 4, 5, 6, 7, 9, 10], [19, 21, 22], []), ([0, 1, 2, 3, 4, 5, 6, 7, 9, 10, 11], [19, 23], []), ([0, 1, 2, 3, 4, 5, 6, 7, 9, 10, 11, 12], [19, 24], []), ([0, 1, 2, 3, 4, 5, 6, 7, 8, 9, 10, 11, 12, 13], [19, 20, 25], []), ([0, 1, 2, 3, 4, 5, 6, 7, 8, 9, 10, 11, 12, 13, 14], [19, 26], []), ([0, 1, 2, 3, 4, 5, 6, 7, 8, 9, 10, 11, 12, 13, 14, 15], [19, 27], []), ([0, 1, 2, 3, 4, 5, 6, 7, 8, 9, 10, 11, 12, 13, 14, 15, 16], [28], []), ([0, 1, 2, 3, 4, 5, 6, 7, 8, 9, 10, 11, 12, 13, 14, 15, 16, 17], [5, 29], []), ([0, 1, 2, 3, 4, 5, 6, 7, 8, 9, 10, 11, 12, 13, 14, 15, 16, 17, 18], [29, 30], []), ([0, 1, 2, 3, 4, 5, 6, 7, 8, 9, 10, 11, 12, 13, 14, 15, 16, 17, 18, 19], [29, 31], []), ([0, 1, 2, 3, 4, 5, 6, 7, 8, 9, 10, 11, 12, 13, 14, 15, 16, 17, 18, 19, 20], [1, 32], []), ([0, 1, 2, 3, 4, 5, 6, 7, 8, 9, 10, 11, 12, 13, 14, 15, 16, 17, 18, 19, 20], [5, 32], []), ([0, 1, 2, 3, 4, 5, 6, 7, 8, 9, 10, 11, 12, 13, 14, 15, 16, 17, 18, 19, 20, 22], [32, 34], []), ([0, 1, 2, 3, 4, 5, 6, 7, 8, 9, 10, 11, 12, 13, 14, 15, 16, 17, 18, 19, 20, 21, 22, 23], [32, 33, 35], []), ([0, 1, 2, 3, 4, 5, 6, 7, 8, 9, 10, 11, 12, 13, 14, 15, 16, 17, 18, 19, 20, 21, 22, 23, 24], [32, 36], []), ([0, 1, 2, 3, 4, 5, 6, 7, 8, 9, 10, 11, 12, 13, 14, 15, 16, 17, 18, 19, 20, 21, 22, 23, 24, 25], [32, 37], []), ([0, 1, 2, 3, 4, 5, 6, 7, 8, 9, 10, 11, 12, 13, 14, 15, 16, 17, 18, 19, 20], [1, 32], []), ([0, 1, 2, 3, 4, 5, 6, 7, 8, 9, 10, 11, 12, 13, 14, 15, 16, 17, 18, 19, 20], [5, 32], []), ([0, 1, 2, 3, 4, 5, 6, 7, 8, 9, 10, 11, 12, 13, 14, 15, 16, 17, 18, 19, 20, 27, 28], [32, 39, 40], []), ([0, 1, 2, 3, 4, 5, 6, 7, 8, 9, 10, 11, 12, 13, 14, 15, 16, 17, 18, 19, 20, 27, 28, 29], [32, 41], []), ([0, 1, 2, 3, 4, 5, 6, 7, 8, 9, 10, 11, 12, 13, 14, 15, 16, 17, 18, 19, 20, 27, 28, 29, 30], [32, 42], []), ([0, 1, 2, 3, 4, 5, 6, 7, 8, 9, 10, 11, 12, 13, 14, 15, 16, 17, 18, 19, 20, 21, 22, 23, 24, 25, 26, 27, 28, 29, 30, 31], [32, 38, 43], []), ([0, 1, 2, 3, 4, 5, 6, 7, 8, 9, 10, 11, 12, 13, 14, 15, 16, 17, 18, 19, 20, 21, 22, 23, 24, 25, 26, 27, 28, 29, 30, 31, 32], [29, 32, 44], []), ([0, 1, 2, 3, 4, 5, 6, 7, 8, 9, 10, 11, 12, 13, 14, 15, 16, 17, 18, 19, 20, 21, 22, 23, 24, 25, 26, 27, 28, 29, 30, 31, 32, 33], [29, 45], [])] rfl rfl rfl ?_ | refine call_x (hN1) rfl ⟨rfl⟩ ?_ | refine call_x (hNd _) rfl ⟨rfl⟩ ?_)) <;> (try simp (maxSteps := 1000000) (disch := first | omega | (simp only [LN, numOk, verOk, rfP, rvP, rhP, frP, elOk_en, elOk_nd, nfx_en, nfx_nd, hg] <;> omega) | exact Ck.mk rfl) only [ee, VC, T, Nat.reduceMul, Nat.reduceAdd, Nat.reduceSub, Nat.reduceLT, Nat.reduceEqDiff, Nat.reduceLeDiff, Nat.reduceBEq, reduceCtorEq, Int.reduceToNat, ↓reduceIte, rfP, rvP, rhP, frP, elOk_en, elOk_nd, nfx_en, nfx_nd, hg]) <;> (try clear ee))
      · have e := hno (by rw [hB]; rintro ⟨_, q, _⟩; omega)
        simp only [e, decide_false]
      · rename_i g1 g2 g3
        rw [hj g3] at f
        refine hN (i + 1) _ ⟨by omega, hnx (by rw [hB]; exact ⟨g1, g2, fun _ => f⟩)⟩ (by omega) ?_
        (simp (disch := first | omega | (simp only [LN, numOk, verOk] <;> omega) | exact Ck.mk rfl) only [SB, EQ, Nat.reduceMul, Nat.reduceAdd, Nat.reduceSub, Nat.reduceLT, Nat.reduceEqDiff, Nat.reduceLeDiff, Nat.reduceBEq, reduceCtorEq, Int.reduceToNat, ↓reduceIte]; try omega)
        try rfl
      · rename_i g1 g2 g3
        rw [hj g3] at f
        have e := hno (by rw [hB]; rintro ⟨_, _, q⟩; rw [q (by omega)] at f; exact Bool.noConfusion f)
        simp only [e, decide_false]
      · rename_i g1 g2
        refine hN (i + 1) _ ⟨by omega, hnx (by rw [hB]; exact ⟨g1, g2, fun _ => by omega⟩)⟩ (by omega) ?_
        (simp (disch := first | omega | (simp only [LN, numOk, verOk] <;> omega) | exact Ck.mk rfl) only [SB, EQ, Nat.reduceMul, Nat.reduceAdd, Nat.reduceSub, Nat.reduceLT, Nat.reduceEqDiff, Nat.reduceLeDiff, Nat.reduceBEq, reduceCtorEq, Int.reduceToNat, ↓reduceIte]; try omega)
        try rfl
      · have e := hno (by rw [hB]; exact fun q => f q.1)
        simp only [e, decide_false]
    · obtain rfl : i = L.length := by omega
      have hlast := hlast h2
      refine Wr.go ?_
      repeat' ((first | (have ee := True.intro; refine Wr.mk ?_) | ((first | refine br_go ?_ ?_ | refine pick_go ?_ ?_) <;> intro ee f <;> (try simp only [BB] at f) <;> (try simp only [numOk, verOk] at f))) <;> (try simp (maxSteps := 1000000) (disch := first | omega | (simp only [LN, numOk, verOk, rfP, rvP, rhP, frP, elOk_en, elOk_nd, nfx_en, nfx_nd] <;> omega) | exact Ck.mk rfl) only [ee, VC, T, Nat.reduceMul, Nat.reduceAdd, Nat.reduceSub, Nat.reduceLT, Nat.reduceEqDiff, Nat.reduceLeDiff, Nat.reduceBEq, reduceCtorEq, Int.reduceToNat, ↓reduceIte, rfP, rvP, rhP, frP, elOk_en, elOk_nd, nfx_en, nfx_nd]) <;> (try clear ee))
      simp only [hlast]
theorem spec_DiskOk (d : Dk) (h : DkW d) : Fn Tryz.prog 63 [dkP d] [] (.bool (decide (diskOk d))) [] := by
  have hU := spec_UsedOn d h
  have hSD := fun k hk => spec_StepsDone d.2.2.1 d.2.2.2.1 k h.os h.ss h.st h.ot hk
  have hEn := fun L hl hz => spec_l05Entries d L h hl hz
  have hsg : ∀ k, (stepsT d k).1.length ≤ d.2.2.1.length + (d.2.2.2.1.take k).length ∧ ∀ e ∈ (stepsT d k).1, e.1.size ≤ 1048576 := fun k => sgT_le 1048576 (d.2.2.2.1.take k) d.2.2.1 h.ot (fun s hs => h.st s (List.mem_of_mem_take hs))
  have hst : ∀ k, sgT d.2.2.1 (d.2.2.2.1.take k) = stepsT d k := fun k => rfl
  have hes := h.es
  have hns := h.ns
  have hss := h.ss
  have hos := h.os
  have n1 : ¬ (d.1.length ≤ 64 ∧ (0 ≤ d.2.2.2.2.1 ∧ d.2.2.2.2.1 ≤ 1000000000) ∧ (1 ≤ d.2.2.2.2.2 ∧ d.2.2.2.2.2 ≤ 1000000000) ∧ usedT d ≤ d.2.2.2.2.1) → diskOk d = False := fun q => propext ⟨fun k => q k.1, False.elim⟩
  have n2 : ∀ i : Nat, i < d.1.length → ¬ ndB d i → diskOk d = False := fun i hi q => propext ⟨fun k => q (k.2.1 i hi), False.elim⟩
  have n3 : ∀ i : Nat, i < d.2.2.2.1.length + 1 → ¬ skB d i → diskOk d = False := fun i hi q => propext ⟨fun k => q (k.2.2 i hi), False.elim⟩
  have n4 : (d.1.length ≤ 64 ∧ (0 ≤ d.2.2.2.2.1 ∧ d.2.2.2.2.1 ≤ 1000000000) ∧ (1 ≤ d.2.2.2.2.2 ∧ d.2.2.2.2.2 ≤ 1000000000) ∧ usedT d ≤ d.2.2.2.2.1) → (∀ i : Nat, i < d.1.length → ndB d i) → (∀ i : Nat, i < d.2.2.2.1.length + 1 → skB d i) → diskOk d = True := fun a b c => propext ⟨fun _ => trivial, fun _ => ⟨a, b, c⟩⟩
  have hB1 : ∀ i, ndB d i = ((1 ≤ (d.1.getD i default).1 ∧ (d.1.getD i default).1 ≤ d.2.2.2.2.2 - 1) ∧ (0 ≤ (d.1.getD i default).2.2 ∧ (d.1.getD i default).2.2 ≤ (d.1.getD i default).2.1.size) ∧ (0 < i → (d.1.getD (i - 1) default).1 < (d.1.getD i default).1)) := fun i => rfl
  have hB2 : ∀ k, skB d k = ((stepsT d k).2 = true ∧ entsOk d (stepsT d k).1 ∧ (k = d.2.2.2.1.length → (stepsT d k).1 = d.2.1)) := fun k => rfl
  unfold dkP at *
  refine fn_x tok (n := 113) (rs := [.tmp 2]) Tryz.func63 (by decide) rfl rfl rfl rfl ?_
  refine Wr.go ?_
  repeat' ((first | (have ee := True.intro; refine Wr.mk ?_) | ((first | refine br_go ?_ ?_ | refine pick_go ?_ ?_) <;> intro ee f <;> (try simp only [BB] at f) <;> (try simp only [numOk, verOk] at f)) | (have ee := True.intro; first | refine dr_go mixed (id := 1) [([], [1], []), ([0], [8], []), ([0, 1], [9], []), ([0, 1, 2], [10], []), ([0, 1, 2, 3], [11], []), ([0, 1, 2, 3, 4], [1, 12], []), ([0, 1, 2, 3, 4, 5], [12, 13], []), ([0, 1, 2, 3, 4, 5, 6], [12, 14], []), ([0, 1, 2, 3, 4, 5, 6, 7], [12, 15], []), ([0, 1, 2, 3, 4, 5, 6, 7, 8], [12, 16], []), ([0, 1, 2, 3, 4, 5, 6, 7, 8, 9], [17], []), ([0, 1, 2, 3, 4, 5, 6, 7, 8, 9, 10], [1, 18], []), ([0, 1, 2, 3, 4, 5, 6, 7, 8, 9, 10, 11], [18, 19], []), ([0, 1, 2, 3, 4, 5, 6, 7, 8, 9, 10, 11, 12], [18, 20], []), ([0, 1, 2, 3, 4, 5, 6, 7, 8, 9, 10, 11, 12, 13], [18, 21], []), ([0, 1, 2, 3, 4, 5, 6, 7, 8, 9, 10, 11, 12, 13, 14], [18, 22], []), ([0, 1, 2, 3, 4, 5, 6, 7, 8, 9, 10, 11, 12, 13, 14, 15], [23], []), ([0, 1, 2, 3, 4, 5, 6, 7, 8, 9, 10, 11, 12, 13, 14, 15, 16], [1, 24], []), ([0, 1, 2, 3, 4, 5, 6, 7, 8, 9, 10, 11, 12, 13, 14, 15, 16, 17], [24, 25], []), ([0, 1, 2, 3, 4, 5, 6, 7, 8, 9, 10, 11, 12, 13, 14, 15, 16], [1, 24], []), ([0, 1, 2, 3, 4, 5, 6, 7, 8, 9, 10, 11, 12, 13, 14, 15, 16, 19], [24, 27], []), ([0, 1, 2, 3, 4, 5, 6, 7, 8, 9, 10, 11, 12, 13, 14, 15, 16, 17, 18, 19, 20], [24, 26, 28], []), ([0, 1, 2, 3, 4, 5, 6, 7, 8, 9, 10, 11, 12, 13, 14, 15, 16, 17, 18, 19, 20, 21], [24, 29], [])] rfl rfl rfl ?_ | refine call_x (spec_l01In _ _ _) rfl ⟨rfl⟩ ?_ | refine call_x (hU) rfl ⟨rfl⟩ ?_)) <;> (try simp (maxSteps := 1000000) (disch := first | omega | (simp only [LN, numOk, verOk, rfP, rvP, rhP, frP, elOk_en, elOk_nd, nfx_en, nfx_nd] <;> omega) | exact Ck.mk rfl) only [ee, VC, T, Nat.reduceMul, Nat.reduceAdd, Nat.reduceSub, Nat.reduceLT, Nat.reduceEqDiff, Nat.reduceLeDiff, Nat.reduceBEq, reduceCtorEq, Int.reduceToNat, ↓reduceIte, rfP, rvP, rhP, frP, elOk_en, elOk_nd, nfx_en, nfx_nd]) <;> (try clear ee))
  case' refine_2.refine_1.refine_1.refine_2 =>
    rename_i g1 g2 g3
    have n4 := n4 ⟨by omega, g2, g3, f⟩
    refine lp_go (fun i : Nat => ⟨113, [(1, .ref 128 0), (3, .int .i64 i)], [(128, .box 35 [.far (d.1.map ndP), .far (d.2.1.map enP), .far (d.2.2.1.map enP), .far (d.2.2.2.1.map .str), .int .i64 d.2.2.2.2.1, .int .i64 d.2.2.2.2.2])]⟩) (fun i => i ≤ d.1.length ∧ ∀ j : Nat, j < i → ndB d j) (fun i => d.1.length - i) 0 ?_ ⟨Nat.zero_le _, fun j h => by omega⟩ ?_
    · (simp (disch := first | omega | (simp only [LN, numOk, verOk] <;> omega) | exact Ck.mk rfl) only [SB, EQ, Nat.reduceMul, Nat.reduceAdd, Nat.reduceSub, Nat.reduceLT, Nat.reduceEqDiff, Nat.reduceLeDiff, Nat.reduceBEq, reduceCtorEq, Int.reduceToNat, ↓reduceIte]; try omega)
      try rfl
    · rintro i ⟨h1, h2⟩ N hN
      have hg : ∀ j, j < d.1.length → (d.1.map ndP).getD j .junk = .agg [.int .i64 (d.1.getD j default).1, .str (d.1.getD j default).2.1, .int .i64 (d.1.getD j default).2.2] := fun j h => by
        rw [List.getD_eq_getElem?_getD, List.getElem?_map, List.getElem?_eq_getElem h, List.getD_eq_getElem?_getD, List.getElem?_eq_getElem h]; rfl
      have hnx : ndB d i → ∀ j : Nat, j < i + 1 → ndB d j := fun h j hj => by
        by_cases e : j = i
        · rw [e]; exact h
        · exact h2 j (by omega)
      have hj : ((i : Int) - 1).toNat = i - 1 := by omega
      have hB := hB1 i
      have n2 := n2 i
      by_cases hi : i < d.1.length
      · have n2 := n2 hi
        refine Wr.go ?_
        repeat' ((first | (have ee := True.intro; refine Wr.mk ?_) | ((first | refine br_go ?_ ?_ | refine pick_go ?_ ?_) <;> intro ee f <;> (try simp only [BB] at f) <;> (try simp only [numOk, verOk] at f)) | (have ee := True.intro; first | refine dr_go mixed (id := 7) [([], [4], []), ([0], [43], []), ([], [1], []), ([2], [45], []), ([2, 3], [46], []), ([0, 1, 2, 3, 4], [44, 47], []), ([0, 1, 2, 3, 4, 5], [48], []), ([0, 1, 2, 3, 4, 5, 6], [49], []), ([0, 1, 2, 3, 4, 5, 6, 7], [3, 50], []), ([0, 1, 2, 3, 4, 5, 6, 7, 8], [50, 51], []), ([0, 1, 2, 3, 4, 5, 6, 7, 8, 9], [50, 52], []), ([0, 1, 2, 3, 4, 5, 6, 7, 8, 9, 10], [1, 53], []), ([0, 1, 2, 3, 4, 5, 6, 7, 8, 9, 10, 11], [53, 54], []), ([0, 1, 2, 3, 4, 5, 6, 7, 8, 9, 10], [3, 53], []), ([0, 1, 2, 3, 4, 5, 6, 7, 8, 9, 10, 13], [53, 56], []), ([0, 1, 2, 3, 4, 5, 6, 7, 8, 9, 10, 11, 12, 13, 14], [53, 55, 57], []), ([0, 1, 2, 3, 4, 5, 6, 7, 8, 9, 10, 11, 12, 13, 14, 15], [53, 58], []), ([0, 1, 2, 3, 4, 5, 6, 7, 8, 9, 10, 11, 12, 13, 14, 15, 16], [53, 59], []), ([0, 1, 2, 3, 4, 5, 6, 7, 8, 9, 10], [4, 53], []), ([0, 1, 2, 3, 4, 5, 6, 7, 8, 9, 10, 18], [53, 61], []), ([0, 1, 2, 3, 4, 5, 6, 7, 8, 9, 10, 11, 12, 13, 14, 15, 16, 17, 18, 19], [53, 60, 62], []), ([0, 1, 2, 3, 4, 5, 6, 7, 8, 9, 10, 11, 12, 13, 14, 15, 16, 17, 18, 19, 20], [50, 53, 63], []), ([0, 1, 2, 3, 4, 5, 6, 7, 8, 9, 10, 11, 12, 13, 14, 15, 16, 17, 18, 19, 20, 21], [50, 64], []), ([0, 1, 2, 3, 4, 5, 6, 7, 8, 9, 10, 11, 12, 13, 14, 15, 16, 17, 18, 19, 20, 21, 22], [65], []), ([0, 1, 2, 3, 4, 5, 6, 7, 8, 9, 10, 11, 12, 13, 14, 15, 16, 17, 18, 19, 20, 21, 22, 23], [4, 66], []), ([0, 1, 2, 3, 4, 5, 6, 7, 8, 9, 10, 11, 12, 13, 14, 15, 16, 17, 18, 19, 20, 21, 22, 23, 24], [66, 67], []), ([0, 1, 2, 3, 4, 5, 6, 7, 8, 9, 10, 11, 12, 13, 14, 15, 16, 17, 18, 19, 20, 21, 22, 23], [4, 66], []), ([0, 1, 2, 3, 4, 5, 6, 7, 8, 9, 10, 11, 12, 13, 14, 15, 16, 17, 18, 19, 20, 21, 22, 23, 26], [66, 69], []), ([0, 1, 2, 3, 4, 5, 6, 7, 8, 9, 10, 11, 12, 13, 14, 15, 16, 17, 18, 19, 20, 21, 22, 23, 26, 27], [66, 70], []), ([0, 1, 2, 3, 4, 5, 6, 7, 8, 9, 10, 11, 12, 13, 14, 15, 16, 17, 18, 19, 20, 21, 22, 23, 24, 25, 26, 27, 28], [66, 68, 71], []), ([0, 1, 2, 3, 4, 5, 6, 7, 8, 9, 10, 11, 12, 13, 14, 15, 16, 17, 18, 19, 20, 21, 22, 23, 24, 25, 26, 27, 28, 29], [66, 72], []), ([0, 1, 2, 3, 4, 5, 6, 7, 8, 9, 10, 11, 12, 13, 14, 15, 16, 17, 18, 19, 20, 21, 22, 23, 24, 25, 26, 27, 28, 29, 30], [66, 73], [])] rfl rfl rfl ?_ | refine call_x (spec_l01In _ _ _) rfl ⟨rfl⟩ ?_)) <;> (try simp (maxSteps := 1000000) (disch := first | omega | (simp only [LN, numOk, verOk, rfP, rvP, rhP, frP, elOk_en, elOk_nd, nfx_en, nfx_nd, hg, hj] <;> omega) | exact Ck.mk rfl) only [ee, VC, T, Nat.reduceMul, Nat.reduceAdd, Nat.reduceSub, Nat.reduceLT, Nat.reduceEqDiff, Nat.reduceLeDiff, Nat.reduceBEq, reduceCtorEq, Int.reduceToNat, ↓reduceIte, rfP, rvP, rhP, frP, elOk_en, elOk_nd, nfx_en, nfx_nd, hg, hj]) <;> (try clear ee))
        all_goals first
          | (refine hN (i + 1) _ ⟨by omega, hnx (by rw [hB]; omega)⟩ (by omega) ?_
             (simp (disch := first | omega | (simp only [LN, numOk, verOk] <;> omega) | exact Ck.mk rfl) only [SB, EQ, Nat.reduceMul, Nat.reduceAdd, Nat.reduceSub, Nat.reduceLT, Nat.reduceEqDiff, Nat.reduceLeDiff, Nat.reduceBEq, reduceCtorEq, Int.reduceToNat, ↓reduceIte]; try omega)
             try rfl)
          | (have e := n2 (by rw [hB]; omega)
             simp only [e, decide_false])
      · obtain rfl : i = d.1.length := by omega
        have n4 := n4 h2
        refine Wr.go ?_
        repeat' ((first | (have ee := True.intro; refine Wr.mk ?_) | ((first | refine br_go ?_ ?_ | refine pick_go ?_ ?_) <;> intro ee f <;> (try simp only [BB] at f) <;> (try simp only [numOk, verOk] at f))) <;> (try simp (maxSteps := 1000000) (disch := first | omega | (simp only [LN, numOk, verOk, rfP, rvP, rhP, frP, elOk_en, elOk_nd, nfx_en, nfx_nd] <;> omega) | exact Ck.mk rfl) only [ee, VC, T, Nat.reduceMul, Nat.reduceAdd, Nat.reduceSub, Nat.reduceLT, Nat.reduceEqDiff, Nat.reduceLeDiff, Nat.reduceBEq, reduceCtorEq, Int.reduceToNat, ↓reduceIte, rfP, rvP, rhP, frP, elOk_en, elOk_nd, nfx_en, nfx_nd]) <;> (try clear ee))
        refine lp_go (fun i : Nat => ⟨113, [(1, .ref 128 0), (5, .int .i64 i)], [(128, .box 35 [.far (d.1.map ndP), .far (d.2.1.map enP), .far (d.2.2.1.map enP), .far (d.2.2.2.1.map .str), .int .i64 d.2.2.2.2.1, .int .i64 d.2.2.2.2.2])]⟩) (fun i => i ≤ d.2.2.2.1.length + 1 ∧ ∀ j : Nat, j < i → skB d j) (fun i => d.2.2.2.1.length + 1 - i) 0 ?_ ⟨Nat.zero_le _, fun j h => by omega⟩ ?_
        · (simp (disch := first | omega | (simp only [LN, numOk, verOk] <;> omega) | exact Ck.mk rfl) only [SB, EQ, Nat.reduceMul, Nat.reduceAdd, Nat.reduceSub, Nat.reduceLT, Nat.reduceEqDiff, Nat.reduceLeDiff, Nat.reduceBEq, reduceCtorEq, Int.reduceToNat, ↓reduceIte]; try omega)
          try rfl
        · rintro k ⟨h3, h4⟩ N hN
          have hkx : skB d k → ∀ j : Nat, j < k + 1 → skB d j := fun h j hj => by
            by_cases e : j = k
            · rw [e]; exact h
            · exact h4 j (by omega)
          have n3 := n3 k
          have hB2 := hB2 k
          by_cases hk : k ≤ d.2.2.2.1.length
          · have hS := hSD k (by omega)
            rw [hst] at hS
            have hsg := hsg k
            rw [List.length_take] at hsg
            have n3 := n3 (by omega)
            generalize stepsT d k = p at *
            obtain ⟨L, ok⟩ := p
            simp only at *
            have hE := hEn L (by omega) hsg.2
            have hSm := spec_l06Same L d.2.1 (by omega)
            refine Wr.go ?_
            repeat' ((first | (have ee := True.intro; refine Wr.mk ?_) | ((first | refine br_go ?_ ?_ | refine pick_go ?_ ?_) <;> intro ee f <;> (try simp only [BB] at f) <;> (try simp only [numOk, verOk] at f)) | (have ee := True.intro; first | refine call_x (hS) rfl ⟨rfl⟩ ?_ | refine call_x (hE) rfl ⟨rfl⟩ ?_ | refine call_x (hSm) rfl ⟨rfl⟩ ?_)) <;> (try simp (maxSteps := 1000000) (disch := first | omega | (simp only [LN, numOk, verOk, rfP, rvP, rhP, frP, elOk_en, elOk_nd, nfx_en, nfx_nd] <;> omega) | exact Ck.mk rfl) only [ee, VC, T, Nat.reduceMul, Nat.reduceAdd, Nat.reduceSub, Nat.reduceLT, Nat.reduceEqDiff, Nat.reduceLeDiff, Nat.reduceBEq, reduceCtorEq, Int.reduceToNat, ↓reduceIte, rfP, rvP, rhP, frP, elOk_en, elOk_nd, nfx_en, nfx_nd]) <;> (try clear ee))
            · rename_i g1 g2 g3
              refine hN (k + 1) _ ⟨by omega, hkx (by rw [hB2]; exact ⟨g1, g2, fun _ => f⟩)⟩ (by omega) ?_
              (simp (disch := first | omega | (simp only [LN, numOk, verOk] <;> omega) | exact Ck.mk rfl) only [SB, EQ, Nat.reduceMul, Nat.reduceAdd, Nat.reduceSub, Nat.reduceLT, Nat.reduceEqDiff, Nat.reduceLeDiff, Nat.reduceBEq, reduceCtorEq, Int.reduceToNat, ↓reduceIte]; try omega)
              try rfl
            · rename_i g1 g2 g3
              have e := n3 (by rw [hB2]; rintro ⟨_, _, q⟩; exact f (q (by omega)))
              simp only [e, decide_false]
            · rename_i g1 g2
              refine hN (k + 1) _ ⟨by omega, hkx (by rw [hB2]; exact ⟨g1, g2, fun h => absurd h (by omega)⟩)⟩ (by omega) ?_
              (simp (disch := first | omega | (simp only [LN, numOk, verOk] <;> omega) | exact Ck.mk rfl) only [SB, EQ, Nat.reduceMul, Nat.reduceAdd, Nat.reduceSub, Nat.reduceLT, Nat.reduceEqDiff, Nat.reduceLeDiff, Nat.reduceBEq, reduceCtorEq, Int.reduceToNat, ↓reduceIte]; try omega)
              try rfl
            · have e := n3 (by rw [hB2]; exact fun q => f q.2.1)
              simp only [e, decide_false]
            · have e := n3 (by rw [hB2]; rintro ⟨q, _⟩; rw [f] at q; exact Bool.noConfusion q)
              simp only [e, decide_false]
          · obtain rfl : k = d.2.2.2.1.length + 1 := by omega
            have e := n4 h4
            refine Wr.go ?_
            repeat' ((first | (have ee := True.intro; refine Wr.mk ?_) | ((first | refine br_go ?_ ?_ | refine pick_go ?_ ?_) <;> intro ee f <;> (try simp only [BB] at f) <;> (try simp only [numOk, verOk] at f))) <;> (try simp (maxSteps := 1000000) (disch := first | omega | (simp only [LN, numOk, verOk, rfP, rvP, rhP, frP, elOk_en, elOk_nd, nfx_en, nfx_nd] <;> omega) | exact Ck.mk rfl) only [ee, VC, T, Nat.reduceMul, Nat.reduceAdd, Nat.reduceSub, Nat.reduceLT, Nat.reduceEqDiff, Nat.reduceLeDiff, Nat.reduceBEq, reduceCtorEq, Int.reduceToNat, ↓reduceIte, rfP, rvP, rhP, frP, elOk_en, elOk_nd, nfx_en, nfx_nd]) <;> (try clear ee))
            simp only [e, decide_true]
  all_goals
    have e := n1 (by omega)
    simp only [e, decide_false]
end Go.Pv

/- What functions of the program and of the reference do, in plain values. -/
namespace Go.Pv
open Go.Proofs Go.Mth
set_option linter.unusedSimpArgs false
set_option linter.unusedVariables false
set_option maxHeartbeats 4000000
set_option maxRecDepth 4000

/-! ### the reference's deeds on disks: copies, nodes that nothing stands for -/
theorem spec_l05Copy_R (d : Dk) (h : DkW d) : FnE Tryz.prog 23 [dkP d] [] (fun r m => r = dkR 64 d ∧ m = dkH d) := by
  have h1 := h.ns
  have h2 := h.es
  have h3 := h.os
  have h4 := h.ss
  unfold dkP
  refine fn_e tok (n := 24) (rs := [.cell 2 35]) Tryz.func23 (by decide) rfl rfl rfl rfl (low_of rfl) ?_
  refine Wr.go ?_
  repeat' ((first | (have ee := True.intro; refine Wr.mk ?_) | ((first | refine br_go ?_ ?_ | refine pick_go ?_ ?_) <;> intro ee f <;> (try simp only [BB] at f) <;> (try simp only [numOk, verOk] at f))) <;> (try simp (maxSteps := 1000000) (disch := first | omega | (simp only [LN, numOk, verOk, rfP, rvP, rhP, frP, elOk_en, elOk_nd, nfx_en, nfx_nd] <;> omega) | exact Ck.mk rfl) only [ee, VC, T, Nat.reduceMul, Nat.reduceAdd, Nat.reduceSub, Nat.reduceLT, Nat.reduceEqDiff, Nat.reduceLeDiff, Nat.reduceBEq, reduceCtorEq, Int.reduceToNat, ↓reduceIte, rfP, rvP, rhP, frP, elOk_en, elOk_nd, nfx_en, nfx_nd]) <;> (try clear ee))
  exact fin_t [some 256, some 576, some 896, some 1216] (⟨rfl, rfl⟩) rfl (by simp [RV, RV2, RVl, RV1, tau, tget, hget, data1, oneOf, dkR, dkH]) (by simp [RH, RVl, RV1, tau, hget, data1, dkR, dkH]) (by simp [Taus, hget, dkR, dkH])
end Go.Pv
