-- Written by a program of this session (wip/myprint.py) for the law FnExactRecordsIn: plain functions and contracts, function by function.
import Derived.Test.YtbbbnedaeiddiaaQFnExactRecordsInx0
import Derived.Test.YtbbbnedaeiddiaaQFnExactRecordsInx7
import Derived.Test.YtbbbnedaeiddiaaQFnExactRecordsInx8
import Derived.Test.YtbbbnedaeiddiaaQFnExactRecordsInx9
namespace Go.Proofs.Ytbbbnedaeiddiaa.QFnExactRecordsIn
open Go.RowKit Go.Proofs.YtbbbnedaeiddiaaW.PrintWords Go.Proofs.YtbbbnedaeiddiaaW.PrintLast Go.Proofs.YtbbbnedaeiddiaaW.PrintMore
attribute [local go_sem] max2_int min2_int max_two min_two max_three min_three max_four min_four   -- for this text's walks alone
set_option linter.unusedVariables false
set_option linter.unusedSimpArgs false

/-! ### impl_ReadFrame: function 103 -/
mutual
def impl_ReadFrame.j0 : Nat → Int → Int → ByteArray → Int → Int → Int → Bool → Option (ByteArray × Int × Bool)
  | 0, _, _, _, _, _, _, _ => none
  | k + 1, x0, x1, x2, x3, x11, x12, x13 => if x13 = true then (if x11 > 60 then (impl_ReadFrame.j1 k x0 x1 x2 x3 x11 x12 true) else (if x12 > (x2.size : Int) then (impl_ReadFrame.j1 k x0 x1 x2 x3 x11 x12 true) else (impl_ReadFrame.j1 k x0 x1 x2 x3 x11 x12 (decide (x11 > (wrap64 ((x2.size : Int) - x12))))))) else (impl_ReadFrame.j1 k x0 x1 x2 x3 x11 x12 true)
def impl_ReadFrame.j1 : Nat → Int → Int → ByteArray → Int → Int → Int → Bool → Option (ByteArray × Int × Bool)
  | 0, _, _, _, _, _, _, _ => none
  | k + 1, x0, x1, x2, x3, x11, x12, x52 => if x52 = true then (some ((⟨#[]⟩ : ByteArray), 0, false)) else (if 0 ≤ x12 then (if x12 ≤ (wrap64 (x12 + x11)) then (if (wrap64 (x12 + x11)) ≤ (x2.size : Int) then ((impl_FrameText.f k x0 x1 (x2.extract (x12 : Int).toNat ((wrap64 (x12 + x11)) : Int).toNat)).bind fun t272 => (if t272.toList = ([] : List UInt8) then (some ((⟨#[]⟩ : ByteArray), 0, false)) else ((impl_hasAt.f x2 x3 t272).bind fun t273 => (if t273 = true then (some (x2.extract (x12 : Int).toNat ((wrap64 (x12 + x11)) : Int).toNat, wrap64 (x3 + (t272.size : Int)), true)) else (some ((⟨#[]⟩ : ByteArray), 0, false)))))) else (none)) else (none)) else (none))
end
def impl_ReadFrame.f (k : Nat) (a0 : Int) (a1 : Int) (a2 : ByteArray) (a3 : Int) : Option (ByteArray × Int × Bool) := if a0 = 2 then ((impl_ReadFix.f k a2 a3 4).bind fun bt267 => (impl_ReadFrame.j0 k a0 a1 a2 a3 bt267.1 (wrap64 (a3 + 8)) bt267.2)) else ((impl_ReadVar.f k a2 a3).bind fun bt269 => (impl_ReadFrame.j0 k a0 a1 a2 a3 bt269.1 bt269.2.1 bt269.2.2))
set_option maxHeartbeats 8000000 in
set_option maxRecDepth 100000 in
theorem impl_ReadFrame.calls (k : Nat) (a0 : Int) (a1 : Int) (a2 : ByteArray) (a3 : Int) (r1 : ByteArray) (r2 : Int) (r3 : Bool) (w : World) (h : impl_ReadFrame.f k a0 a1 a2 a3 = some (r1, r2, r3)) :
    Calls Try.prog 103 #[.int .i64 a0, .int .i64 a1, .string a2, .int .i64 a3] w fun e w' => e = .returned (.tuple #[.string r1, .int .i64 r2, .bool r3]) ∧ Below w.heap.size w w' := by
  have HB := Aside0.mk (Below.refl w.heap.size w)
  have H : (if a0 = 2 then ((impl_ReadFix.f k a2 a3 4).bind fun bt267 => (impl_ReadFrame.j0 k a0 a1 a2 a3 bt267.1 (wrap64 (a3 + 8)) bt267.2)) else ((impl_ReadVar.f k a2 a3).bind fun bt269 => (impl_ReadFrame.j0 k a0 a1 a2 a3 bt269.1 bt269.2.1 bt269.2.2))) = some (r1, r2, r3) := h
  clear h
  have HC5 := Aside0.mk H
  clear H
  go_enter Try.func103, Try.ntmps103
  go_upto_if 17 with (fail)
  go_cut [11, 12, 13] (fun v11 v12 v13 wc => ∃ (kq : Nat) (x11_4 : Int) (x12_4 : Int) (x13_4 : Bool), v11 = .int .i64 x11_4 ∧ v12 = .int .i64 x12_4 ∧ v13 = .bool x13_4 ∧ Aside0 (impl_ReadFrame.j0 kq a0 a1 a2 a3 x11_4 x12_4 x13_4 = some (r1, r2, r3)) ∧ Aside0 (kq ≤ k) ∧ Aside0 (Below w.heap.size w wc))
  case first =>
    have H := HC5.out
    clear HC5
    by_cases c6 : a0 = 2
    · rw [if_pos c6] at H
      have c6b0 : (a0 == 2) = true := beq_iff_eq.mpr c6
      have c6b1 : (a0 != 2) = false := bne_eq_false_iff_eq.mpr c6
      clear c6
      (first | rw [c6b0] | (simp only [i64_w, i32_w]; rw [c6b0]) | skip)
      replace H := Option.bind_eq_some_iff.mp H
      obtain ⟨⟨t267, t268⟩, A70, H⟩ := H
      replace H : (impl_ReadFrame.j0 k a0 a1 a2 a3 t267 (wrap64 (a3 + 8)) t268) = some (r1, r2, r3) := H
      have A7 := Aside0.mk A70
      clear A70
      have H' := Aside0.mk H
      clear H
      go_wp2_with (first | ((with_reducible refine gate_callee (f := 84) rfl ?_); refine goesL_ (some 21) rfl rfl Try.func84 (by kernel_rfl) rfl #[.string a2, .int .i64 a3, .int .i64 4] rfl (by (try simp only [List.map_toArray, List.map_cons, List.map_nil]); first | done | rfl | (simp only [List.length_drop, List.length_take]; rfl)) ?_; (with_reducible refine (impl_ReadFix.calls k a2 a3 4 t267 t268 _ A7.out).mono ?_); rintro e w' ⟨rfl, ⟨nd, rfl⟩⟩; refine ⟨_, rfl, ?_⟩))
      go_meet
      case rel => exact ⟨_, (t267), (wrap64 (a3 + 8)), (t268), (by first | rfl | (simp; done) | (simp [*]; done)), (by first | rfl | (simp; done) | (simp [*]; done)), (by first | rfl | (simp; done) | (simp [*]; done)), H', ⟨by first | omega | exact Nat.le_refl _⟩, ⟨by repeat (first | (with_reducible first | exact HB.out | apply below_alloc | apply pw_below_drewN | apply below_drew1) | exact HB.out)⟩⟩
    · rw [if_neg c6] at H
      have c6b0 : (a0 == 2) = false := beq_eq_false_iff_ne.mpr c6
      have c6b1 : (a0 != 2) = true := bne_iff_ne.mpr c6
      (first | rw [c6b0] | (simp only [i64_w, i32_w]; rw [c6b0]) | skip)
      replace H := Option.bind_eq_some_iff.mp H
      obtain ⟨⟨t269, t270, t271⟩, A80, H⟩ := H
      replace H : (impl_ReadFrame.j0 k a0 a1 a2 a3 t269 t270 t271) = some (r1, r2, r3) := H
      have A8 := Aside0.mk A80
      clear A80
      have H' := Aside0.mk H
      clear H
      go_wp2_with (first | ((with_reducible refine gate_callee (f := 132) rfl ?_); refine goesL_ (some 29) rfl rfl Try.func132 (by kernel_rfl) rfl #[.string a2, .int .i64 a3] rfl (by (try simp only [List.map_toArray, List.map_cons, List.map_nil]); first | done | rfl | (simp only [List.length_drop, List.length_take]; rfl)) ?_; (with_reducible refine (impl_ReadVar.calls k a2 a3 t269 t270 t271 _ A8.out).mono ?_); rintro e w' ⟨rfl, ⟨nd, rfl⟩⟩; refine ⟨_, rfl, ?_⟩))
      go_meet
      case rel => exact ⟨_, (t269), (t270), (t271), (by first | rfl | (simp; done) | (simp [*]; done)), (by first | rfl | (simp; done) | (simp [*]; done)), (by first | rfl | (simp; done) | (simp [*]; done)), H', ⟨by first | omega | exact Nat.le_refl _⟩, ⟨by repeat (first | (with_reducible first | exact HB.out | apply below_alloc | apply pw_below_drewN | apply below_drew1) | exact HB.out)⟩⟩
  case rest =>
    clear HC5
    try clear c1
    try clear p2
    try clear c6
    try clear c6b0
    try clear c6b1
    try clear p6
    try clear c8
    obtain ⟨kq, x11_4, x12_4, x13_4, rfl, rfl, rfl, HA, HJ4, HB⟩ := hcut
    cases kq with
    | zero => exact absurd HA.out (by simp [impl_ReadFrame.j0])
    | succ kj4 =>
      have H := HA.out
      clear HA
      simp only [impl_ReadFrame.j0] at H
      have HC9 := Aside0.mk H
      clear H
      go_upto_region 6 with (fail)
      go_cut [52] (fun v52 wc => ∃ (kq : Nat) (x52_8 : Bool), v52 = .bool x52_8 ∧ Aside0 (impl_ReadFrame.j1 kq a0 a1 a2 a3 x11_4 x12_4 x52_8 = some (r1, r2, r3)) ∧ Aside0 (kq ≤ kj4) ∧ Aside0 (Below w.heap.size w wc))
      case first =>
        have H := HC9.out
        clear HC9
        by_cases c10 : x13_4 = true
        · subst c10
          have H1 : (if x11_4 > 60 then (impl_ReadFrame.j1 kj4 a0 a1 a2 a3 x11_4 x12_4 true) else (if x12_4 > (a2.size : Int) then (impl_ReadFrame.j1 kj4 a0 a1 a2 a3 x11_4 x12_4 true) else (impl_ReadFrame.j1 kj4 a0 a1 a2 a3 x11_4 x12_4 (decide (x11_4 > (wrap64 ((a2.size : Int) - x12_4))))))) = some (r1, r2, r3) := by rw [if_pos rfl] at H; exact H
          clear H
          have H := H1
          clear H1
          by_cases c11 : x11_4 > 60
          · rw [if_pos c11] at H
            have c11b0 : decide (60 < x11_4) = true := decide_eq_true c11
            clear c11
            (first | rw [c11b0] | (simp only [i64_w, i32_w]; rw [c11b0]) | skip)
            have H' := Aside0.mk H
            clear H
            go_wp2
            go_meet
            case rel => exact ⟨_, (true), (by first | rfl | (simp; done) | (simp [*]; done)), H', ⟨by have := HJ4.out; first | omega | exact Nat.le_refl _⟩, ⟨by repeat (first | (with_reducible first | exact HB.out | apply below_alloc | apply pw_below_drewN | apply below_drew1) | exact HB.out)⟩⟩
          · rw [if_neg c11] at H
            have c11b0 : decide (60 < x11_4) = false := decide_eq_false c11
            clear c11
            (first | rw [c11b0] | (simp only [i64_w, i32_w]; rw [c11b0]) | skip)
            by_cases c12 : x12_4 > (a2.size : Int)
            · rw [if_pos c12] at H
              have c12b0 : decide ((a2.size : Int) < x12_4) = true := decide_eq_true c12
              clear c12
              have H' := Aside0.mk H
              clear H
              go_wp2
              go_meet
              case rel => exact ⟨_, (true), (by first | rfl | (simp; done) | (simp [*]; done)), H', ⟨by have := HJ4.out; first | omega | exact Nat.le_refl _⟩, ⟨by repeat (first | (with_reducible first | exact HB.out | apply below_alloc | apply pw_below_drewN | apply below_drew1) | exact HB.out)⟩⟩
            · rw [if_neg c12] at H
              have c12b0 : decide ((a2.size : Int) < x12_4) = false := decide_eq_false c12
              clear c12
              have H' := Aside0.mk H
              clear H
              go_wp2
              go_meet
              case rel => exact ⟨_, (decide (x11_4 > (wrap64 ((a2.size : Int) - x12_4)))), (by first | rfl | (simp; done) | (simp [*]; done)), H', ⟨by have := HJ4.out; first | omega | exact Nat.le_refl _⟩, ⟨by repeat (first | (with_reducible first | exact HB.out | apply below_alloc | apply pw_below_drewN | apply below_drew1) | exact HB.out)⟩⟩
        · replace c10 := Bool.eq_false_iff.mpr c10
          subst c10
          have H1 : (impl_ReadFrame.j1 kj4 a0 a1 a2 a3 x11_4 x12_4 true) = some (r1, r2, r3) := by rw [if_neg (show ¬ (false = true) by decide)] at H; exact H
          clear H
          have H := H1
          clear H1
          have H' := Aside0.mk H
          clear H
          go_wp2
          go_meet
          case rel => exact ⟨_, (true), (by first | rfl | (simp; done) | (simp [*]; done)), H', ⟨by have := HJ4.out; first | omega | exact Nat.le_refl _⟩, ⟨by repeat (first | (with_reducible first | exact HB.out | apply below_alloc | apply pw_below_drewN | apply below_drew1) | exact HB.out)⟩⟩
      case rest =>
        clear HC9
        try clear c1
        try clear p2
        try clear c6
        try clear c6b0
        try clear c6b1
        try clear p6
        try clear c8
        try clear c10
        try clear c11
        try clear c11b0
        try clear c12
        try clear c12b0
        try clear p2
        try clear p6
        obtain ⟨kq, x52_8, rfl, HA, HJ8, HB⟩ := hcut
        cases kq with
        | zero => exact absurd HA.out (by simp [impl_ReadFrame.j1])
        | succ kj8 =>
          have H := HA.out
          clear HA
          simp only [impl_ReadFrame.j1] at H
          by_cases c13 : x52_8 = true
          · subst c13
            have H1 : (some ((⟨#[]⟩ : ByteArray), 0, false)) = some (r1, r2, r3) := by rw [if_pos rfl] at H; exact H
            clear H
            have H := H1
            clear H1
            simp only [Option.some.injEq, Prod.mk.injEq] at H
            obtain ⟨rfl, rfl, rfl⟩ := H
            go_wp2
            go_ret3
            exact ⟨by first | rfl | (simp [errW_none, errW_some] <;> rfl) | (simp [*, errW_none, errW_some] <;> rfl), by repeat (first | (with_reducible first | exact HB.out | apply below_alloc | apply pw_below_drewN | apply below_drew1) | exact HB.out)⟩
          · replace c13 := Bool.eq_false_iff.mpr c13
            subst c13
            have H1 : (if 0 ≤ x12_4 then (if x12_4 ≤ (wrap64 (x12_4 + x11_4)) then (if (wrap64 (x12_4 + x11_4)) ≤ (a2.size : Int) then ((impl_FrameText.f kj8 a0 a1 (a2.extract (x12_4 : Int).toNat ((wrap64 (x12_4 + x11_4)) : Int).toNat)).bind fun t272 => (if t272.toList = ([] : List UInt8) then (some ((⟨#[]⟩ : ByteArray), 0, false)) else ((impl_hasAt.f a2 a3 t272).bind fun t273 => (if t273 = true then (some (a2.extract (x12_4 : Int).toNat ((wrap64 (x12_4 + x11_4)) : Int).toNat, wrap64 (a3 + (t272.size : Int)), true)) else (some ((⟨#[]⟩ : ByteArray), 0, false)))))) else (none)) else (none)) else (none)) = some (r1, r2, r3) := by rw [if_neg (show ¬ (false = true) by decide)] at H; exact H
            clear H
            have H := H1
            clear H1
            by_cases c14 : 0 ≤ x12_4
            · rw [if_pos c14] at H
              have c14b0 := eq_true c14
              have c14b1 : decide (0 ≤ x12_4) = true := decide_eq_true c14
              clear c14
              by_cases c15 : x12_4 ≤ (wrap64 (x12_4 + x11_4))
              · rw [if_pos c15] at H
                have c15b0 := eq_true c15
                have c15b1 : decide (x12_4 ≤ (wrap64 (x12_4 + x11_4))) = true := decide_eq_true c15
                by_cases c16 : (wrap64 (x12_4 + x11_4)) ≤ (a2.size : Int)
                · rw [if_pos c16] at H
                  have c16b0 := eq_true c16
                  have c16b1 : decide ((wrap64 (x12_4 + x11_4)) ≤ (a2.size : Int)) = true := decide_eq_true c16
                  replace H := Option.bind_eq_some_iff.mp H
                  obtain ⟨t272, A170, H⟩ := H
                  replace H : (if t272.toList = ([] : List UInt8) then (some ((⟨#[]⟩ : ByteArray), 0, false)) else ((impl_hasAt.f a2 a3 t272).bind fun t273 => (if t273 = true then (some (a2.extract (x12_4 : Int).toNat ((wrap64 (x12_4 + x11_4)) : Int).toNat, wrap64 (a3 + (t272.size : Int)), true)) else (some ((⟨#[]⟩ : ByteArray), 0, false))))) = some (r1, r2, r3) := H
                  have A17 := Aside0.mk A170
                  clear A170
                  by_cases c18 : t272.toList = ([] : List UInt8)
                  · rw [if_pos c18] at H
                    have c18b0 : (t272.toList == ([] : List UInt8)) = true := beq_iff_eq.mpr c18
                    have c18b1 : (t272.toList != ([] : List UInt8)) = false := bne_eq_false_iff_eq.mpr c18
                    clear c18
                    simp only [Option.some.injEq, Prod.mk.injEq] at H
                    obtain ⟨rfl, rfl, rfl⟩ := H
                    go_wp2_with (first | ((with_reducible refine gate_callee (f := 75) rfl ?_); refine goesL_ (some 62) rfl rfl Try.func75 (by kernel_rfl) rfl #[.int .i64 a0, .int .i64 a1, .string (a2.extract (x12_4 : Int).toNat ((wrap64 (x12_4 + x11_4)) : Int).toNat)] rfl (by (try simp only [List.map_toArray, List.map_cons, List.map_nil]); first | done | rfl | (simp only [List.length_drop, List.length_take]; rfl)) ?_; (with_reducible refine (impl_FrameText.calls kj8 a0 a1 (a2.extract (x12_4 : Int).toNat ((wrap64 (x12_4 + x11_4)) : Int).toNat) t272 _ A17.out).mono ?_); rintro e w19 ⟨rfl, hb⟩; refine ⟨_, rfl, ?_⟩; have n0_ := Aside0.mk (below_step (by repeat (first | (with_reducible first | exact HB.out | apply below_alloc | apply pw_below_drewN | apply below_drew1) | exact HB.out)) hb); clear HB; have HB := n0_; clear n0_; (try clear hb); (try clear hb2); (try clear hk); (try clear hi)))
                    go_ret3
                    exact ⟨by first | rfl | (simp [errW_none, errW_some] <;> rfl) | (simp [*, errW_none, errW_some] <;> rfl), by repeat (first | (with_reducible first | exact HB.out | apply below_alloc | apply pw_below_drewN | apply below_drew1) | exact HB.out)⟩
                  · rw [if_neg c18] at H
                    have c18b0 : (t272.toList == ([] : List UInt8)) = false := beq_eq_false_iff_ne.mpr c18
                    have c18b1 : (t272.toList != ([] : List UInt8)) = true := bne_iff_ne.mpr c18
                    replace H := Option.bind_eq_some_iff.mp H
                    obtain ⟨t273, A200, H⟩ := H
                    replace H : (if t273 = true then (some (a2.extract (x12_4 : Int).toNat ((wrap64 (x12_4 + x11_4)) : Int).toNat, wrap64 (a3 + (t272.size : Int)), true)) else (some ((⟨#[]⟩ : ByteArray), 0, false))) = some (r1, r2, r3) := H
                    have A20 := Aside0.mk A200
                    clear A200
                    by_cases c21 : t273 = true
                    · subst c21
                      have H1 : (some (a2.extract (x12_4 : Int).toNat ((wrap64 (x12_4 + x11_4)) : Int).toNat, wrap64 (a3 + (t272.size : Int)), true)) = some (r1, r2, r3) := by rw [if_pos rfl] at H; exact H
                      clear H
                      have H := H1
                      clear H1
                      simp only [Option.some.injEq, Prod.mk.injEq] at H
                      obtain ⟨rfl, rfl, rfl⟩ := H
                      go_wp2_with (first | ((with_reducible refine gate_callee (f := 75) rfl ?_); refine goesL_ (some 62) rfl rfl Try.func75 (by kernel_rfl) rfl #[.int .i64 a0, .int .i64 a1, .string (a2.extract (x12_4 : Int).toNat ((wrap64 (x12_4 + x11_4)) : Int).toNat)] rfl (by (try simp only [List.map_toArray, List.map_cons, List.map_nil]); first | done | rfl | (simp only [List.length_drop, List.length_take]; rfl)) ?_; (with_reducible refine (impl_FrameText.calls kj8 a0 a1 (a2.extract (x12_4 : Int).toNat ((wrap64 (x12_4 + x11_4)) : Int).toNat) t272 _ A17.out).mono ?_); rintro e w22 ⟨rfl, hb⟩; refine ⟨_, rfl, ?_⟩; have n0_ := Aside0.mk (below_step (by repeat (first | (with_reducible first | exact HB.out | apply below_alloc | apply pw_below_drewN | apply below_drew1) | exact HB.out)) hb); clear HB; have HB := n0_; clear n0_; (try clear hb); (try clear hb2); (try clear hk); (try clear hi)) | (go_at_call 131; (with_reducible refine (impl_hasAt.calls a2 a3 t272 true _ A20.out).mono ?_); rintro e w' ⟨rfl, ⟨nd, rfl⟩⟩))
                      go_ret3
                      exact ⟨by first | rfl | (simp [errW_none, errW_some] <;> rfl) | (simp [*, errW_none, errW_some] <;> rfl), by repeat (first | (with_reducible first | exact HB.out | apply below_alloc | apply pw_below_drewN | apply below_drew1) | exact HB.out)⟩
                    · replace c21 := Bool.eq_false_iff.mpr c21
                      subst c21
                      have H1 : (some ((⟨#[]⟩ : ByteArray), 0, false)) = some (r1, r2, r3) := by rw [if_neg (show ¬ (false = true) by decide)] at H; exact H
                      clear H
                      have H := H1
                      clear H1
                      simp only [Option.some.injEq, Prod.mk.injEq] at H
                      obtain ⟨rfl, rfl, rfl⟩ := H
                      go_wp2_with (first | ((with_reducible refine gate_callee (f := 75) rfl ?_); refine goesL_ (some 62) rfl rfl Try.func75 (by kernel_rfl) rfl #[.int .i64 a0, .int .i64 a1, .string (a2.extract (x12_4 : Int).toNat ((wrap64 (x12_4 + x11_4)) : Int).toNat)] rfl (by (try simp only [List.map_toArray, List.map_cons, List.map_nil]); first | done | rfl | (simp only [List.length_drop, List.length_take]; rfl)) ?_; (with_reducible refine (impl_FrameText.calls kj8 a0 a1 (a2.extract (x12_4 : Int).toNat ((wrap64 (x12_4 + x11_4)) : Int).toNat) t272 _ A17.out).mono ?_); rintro e w23 ⟨rfl, hb⟩; refine ⟨_, rfl, ?_⟩; have n0_ := Aside0.mk (below_step (by repeat (first | (with_reducible first | exact HB.out | apply below_alloc | apply pw_below_drewN | apply below_drew1) | exact HB.out)) hb); clear HB; have HB := n0_; clear n0_; (try clear hb); (try clear hb2); (try clear hk); (try clear hi)) | (go_at_call 131; (with_reducible refine (impl_hasAt.calls a2 a3 t272 false _ A20.out).mono ?_); rintro e w' ⟨rfl, ⟨nd, rfl⟩⟩))
                      go_ret3
                      exact ⟨by first | rfl | (simp [errW_none, errW_some] <;> rfl) | (simp [*, errW_none, errW_some] <;> rfl), by repeat (first | (with_reducible first | exact HB.out | apply below_alloc | apply pw_below_drewN | apply below_drew1) | exact HB.out)⟩
                · rw [if_neg c16] at H
                  exact absurd H (by simp)
              · rw [if_neg c15] at H
                exact absurd H (by simp)
            · rw [if_neg c14] at H
              exact absurd H (by simp)

/-! ### impl_ScanText: function 37 -/
def impl_ScanText.l0 : Nat → ByteArray → Int → Int → Int → Int → Bool → Int → Int → Int → Int → List ByteArray → List Int → Int → Bool → Option (Bool × Int × Int × Int × Int × List ByteArray × List Int × Int × Bool)
  | 0, _, _, _, _, _, _, _, _, _, _, _, _, _, _ => none
  | k + 1, x0, x281000, x281001, x281002, x281003, x282000, x282001, x282002, x282003, x282004, x282005, x282006, x282007, x282008 => (impl_MarkAt.f k x281000 (wrap64 (x281002 + (x282005.length : Int))) x0 x282007).bind fun t282 => (if t282 = true then (some (x282000, x282001, x282002, x282003, x282004, x282005, x282006, x282007, true)) else ((impl_ReadFrame.f k x281000 (wrap64 (x281002 + (x282005.length : Int))) x0 x282007).bind fun bt283 => (if bt283.2.2 = true then (if x282005.length < 8796093022208 then (if x282006.length < 17592186044416 then (impl_ScanText.l0 k x0 x281000 x281001 x281002 x281003 x282000 x282001 x282002 x282003 x282004 (x282005 ++ [bt283.1]) (x282006 ++ [x282007]) bt283.2.1 x282008) else (none)) else (none)) else (some (x282000, x282001, x282002, x282003, x282004, x282005, x282006, x282007, x282008)))))
def impl_ScanText.f (k : Nat) (a0 : ByteArray) : Option (Bool × Int × Int × Int × Int × List ByteArray × List Int × Int × Bool) := (impl_ReadHead.f k a0).bind fun bt275 => (if bt275.2.2.2.2 = true then (impl_ScanText.l0 k a0 bt275.1 bt275.2.1 bt275.2.2.1 bt275.2.2.2.1 true bt275.1 bt275.2.1 bt275.2.2.1 bt275.2.2.2.1 ([] : List ByteArray) ([] : List Int) 24 false) else (some (false, 0, 0, 0, 0, ([] : List ByteArray), ([] : List Int), 0, false)))
set_option maxHeartbeats 8000000 in
set_option maxRecDepth 100000 in
theorem impl_ScanText.calls (k : Nat) (a0 : ByteArray) (r1 : Bool) (r2 : Int) (r3 : Int) (r4 : Int) (r5 : Int) (r6 : List ByteArray) (r7 : List Int) (r8 : Int) (r9 : Bool) (w : World) (h : impl_ScanText.f k a0 = some (r1, r2, r3, r4, r5, r6, r7, r8, r9)) :
    Calls Try.prog 37 #[.string a0] w fun e w' => ∃ v5_ v6_ : Value, e = .returned (.agg #[.bool r1, .int .i64 r2, .int .i64 r3, .int .i64 r4, .int .i64 r5, v5_, v6_, .int .i64 r8, .bool r9]) ∧ Kd.R Kd.string 9 w' w.heap.size (fun _ => True) v5_ r6 ∧ Kd.R (Kd.int .i64) 3 w' w.heap.size (fun _ => True) v6_ r7 ∧ Below w.heap.size w w' := by
  have hu47 := Try.underlying47
  have hu27 := Try.underlying27
  have HB := Aside0.mk (Below.refl w.heap.size w)
  have H : ((impl_ReadHead.f k a0).bind fun bt275 => (if bt275.2.2.2.2 = true then (impl_ScanText.l0 k a0 bt275.1 bt275.2.1 bt275.2.2.1 bt275.2.2.2.1 true bt275.1 bt275.2.1 bt275.2.2.1 bt275.2.2.2.1 ([] : List ByteArray) ([] : List Int) 24 false) else (some (false, 0, 0, 0, 0, ([] : List ByteArray), ([] : List Int), 0, false)))) = some (r1, r2, r3, r4, r5, r6, r7, r8, r9) := h
  clear h
  replace H := Option.bind_eq_some_iff.mp H
  obtain ⟨⟨t275, t276, t277, t278, t279⟩, A20, H⟩ := H
  replace H : (if t279 = true then (impl_ScanText.l0 k a0 t275 t276 t277 t278 true t275 t276 t277 t278 ([] : List ByteArray) ([] : List Int) 24 false) else (some (false, 0, 0, 0, 0, ([] : List ByteArray), ([] : List Int), 0, false))) = some (r1, r2, r3, r4, r5, r6, r7, r8, r9) := H
  have A2 := Aside0.mk A20
  clear A20
  by_cases c3 : t279 = true
  · subst c3
    have H1 : (impl_ScanText.l0 k a0 t275 t276 t277 t278 true t275 t276 t277 t278 ([] : List ByteArray) ([] : List Int) 24 false) = some (r1, r2, r3, r4, r5, r6, r7, r8, r9) := by rw [if_pos rfl] at H; exact H
    clear H
    have H := H1
    clear H1
    have H' := Aside0.mk H
    clear H
    go_enter Try.func37, Try.ntmps37
    go_wp2_with (first | ((with_reducible refine gate_dst (N := 2) rfl ?_); refine box_event ?hg (N := 2) ?hd (cs := #[.bool false, .int .i64 0, .int .i64 0, .int .i64 0, .int .i64 0, .slice none 0 0, .slice none 0 0, .int .i64 0, .bool false]) (t := 47) ?hr ?_; (case hd => rfl); (case hg => rfl); (case hr => first | (go_simp; done) | (go_simp; rfl)); intro gb274 hg w4 hbox hb; have n0_ := Aside0.mk (below_step (by repeat (first | (with_reducible first | exact HB.out | apply below_alloc | apply pw_below_drewN | apply below_drew1) | exact HB.out)) hb); have n1_ := Aside0.mk (hbox); have n2_ := Aside0.mk ((by rw [hg]; exact (below_size (by repeat (first | (with_reducible first | exact HB.out | apply below_alloc | apply pw_below_drewN | apply below_drew1) | exact HB.out))) : w.heap.size ≤ gb274)); have n3_ := Aside0.mk ((by rw [hg]; exact (below_size (by repeat (first | (with_reducible first | exact HB.out | apply below_alloc | apply pw_below_drewN | apply below_drew1) | exact HB.out))) : w.heap.size ≤ gb274)); clear HB; have HB := n0_; have BK274 := n1_; have GW274 := n2_; have GE274 := n3_; clear n0_ n1_ n2_ n3_; clear hb hbox hg) | ((with_reducible refine gate_callee (f := 101) rfl ?_); refine goesL_ (some 12) rfl rfl Try.func101 (by kernel_rfl) rfl #[.string a0] rfl (by (try simp only [List.map_toArray, List.map_cons, List.map_nil]); first | done | rfl | (simp only [List.length_drop, List.length_take]; rfl)) ?_; (with_reducible refine (impl_ReadHead.calls k a0 t275 t276 t277 t278 true _ A2.out).mono ?_); rintro e w5 ⟨rfl, hb⟩; refine ⟨_, rfl, ?_⟩; have n0_ := Aside0.mk (blk_below (g := gb274) (o := .cells #[.bool false, .int .i64 0, .int .i64 0, .int .i64 0, .int .i64 0, .slice none 0 0, .slice none 0 0, .int .i64 0, .bool false] 47 (0, 0)) (by (with_reducible repeat (first | refine blk_drewN ?_ _ | refine blk_drew ?_ | refine blk_alloc ?_ _)); exact BK274.out) hb); have n1_ := Aside0.mk (below_step (by repeat (first | (with_reducible first | exact HB.out | apply below_alloc | apply pw_below_drewN | apply below_drew1 | refine below_set ?_ GE274.out) | exact HB.out)) hb); clear BK274; clear HB; have BK274 := n0_; have HB := n1_; clear n0_ n1_; (try clear hb); (try clear hb2); (try clear hk); (try clear hi)) | ((with_reducible refine gate_dst (N := 3) rfl ?_); refine box_event ?hg (N := 3) ?hd (cs := #[.int .i64 0, .int .i64 0, .int .i64 0, .int .i64 0]) (t := 27) ?hr ?_; (case hd => rfl); (case hg => rfl); (case hr => first | (go_simp; done) | (go_simp; rfl)); intro gb280 hg w6 hbox hb; have n0_ := Aside0.mk (blk_below (g := gb274) (o := .cells #[.bool false, .int .i64 0, .int .i64 0, .int .i64 0, .int .i64 0, .slice none 0 0, .slice none 0 0, .int .i64 0, .bool false] 47 (0, 0)) (by (with_reducible repeat (first | refine blk_drewN ?_ _ | refine blk_drew ?_ | refine blk_alloc ?_ _)); exact BK274.out) hb); have n1_ := Aside0.mk (below_step (by repeat (first | (with_reducible first | exact HB.out | apply below_alloc | apply pw_below_drewN | apply below_drew1 | refine below_set ?_ GE274.out) | exact HB.out)) hb); have n2_ := Aside0.mk (hbox); have n3_ := Aside0.mk ((by rw [hg]; exact (below_size (by repeat (first | (with_reducible first | exact HB.out | apply below_alloc | apply pw_below_drewN | apply below_drew1 | refine below_set ?_ GE274.out) | exact HB.out))) : w.heap.size ≤ gb280)); have n4_ := Aside0.mk ((by rw [hg]; exact (below_size (by repeat (first | (with_reducible first | exact HB.out | apply below_alloc | apply pw_below_drewN | apply below_drew1 | refine below_set ?_ GE274.out) | exact HB.out))) : w.heap.size ≤ gb280)); have n5_ := Aside0.mk ((by rw [hg]; exact Nat.ne_of_lt (blk_lt (g := gb274) (o := .cells #[.bool false, .int .i64 0, .int .i64 0, .int .i64 0, .int .i64 0, .slice none 0 0, .slice none 0 0, .int .i64 0, .bool false] 47 (0, 0)) (by (with_reducible repeat (first | refine blk_drewN ?_ _ | refine blk_drew ?_ | refine blk_alloc ?_ _)); exact BK274.out)) : gb274 ≠ gb280)); have n6_ := Aside0.mk ((by rw [hg]; exact Nat.ne_of_gt (blk_lt (g := gb274) (o := .cells #[.bool false, .int .i64 0, .int .i64 0, .int .i64 0, .int .i64 0, .slice none 0 0, .slice none 0 0, .int .i64 0, .bool false] 47 (0, 0)) (by (with_reducible repeat (first | refine blk_drewN ?_ _ | refine blk_drew ?_ | refine blk_alloc ?_ _)); exact BK274.out)) : gb280 ≠ gb274)); clear BK274; clear HB; have BK274 := n0_; have HB := n1_; have BK280 := n2_; have GW280 := n3_; have GE280 := n4_; have NB274_280 := n5_; have NB280_274 := n6_; clear n0_ n1_ n2_ n3_ n4_ n5_ n6_; clear hb hbox hg; have hnb7 := NB280_274.out; have hnc7 := NB274_280.out; have hcz8_0 : w6.cell? ⟨gb280, 0, none⟩ = some (.int .i64 0) := (blk_cell BK280.out 0).trans rfl; have hcz8_1 : w6.cell? ⟨gb280, 1, none⟩ = some (.int .i64 0) := (blk_cell BK280.out 1).trans rfl; have hcz8_2 : w6.cell? ⟨gb280, 2, none⟩ = some (.int .i64 0) := (blk_cell BK280.out 2).trans rfl; have hcz8_3 : w6.cell? ⟨gb280, 3, none⟩ = some (.int .i64 0) := (blk_cell BK280.out 3).trans rfl; have hfz8_0 := blk_frozen BK280.out 0; have hfz8_1 := blk_frozen BK280.out 1; have hfz8_2 := blk_frozen BK280.out 2; have hfz8_3 := blk_frozen BK280.out 3) | ((with_reducible refine gate_dst (N := 5) rfl ?_); refine box_event ?hg (N := 5) ?hd (cs := #[.bool false, .int .i64 0, .int .i64 0, .int .i64 0, .int .i64 0, .slice none 0 0, .slice none 0 0, .int .i64 0, .bool false]) (t := 47) ?hr ?_; (case hd => rfl); (case hg => rfl); (case hr => first | (go_simp; done) | (go_simp; rfl)); intro gb281 hg w9 hbox hb; have n0_ := Aside0.mk (blk_below (g := gb274) (o := .cells #[.bool false, .int .i64 0, .int .i64 0, .int .i64 0, .int .i64 0, .slice none 0 0, .slice none 0 0, .int .i64 0, .bool false] 47 (0, 0)) (by (with_reducible repeat (first | refine blk_drewN ?_ _ | refine blk_drew ?_ | refine blk_alloc ?_ _)); refine blk_far ?_ NB274_280.out _; (with_reducible repeat (first | refine blk_drewN ?_ _ | refine blk_drew ?_ | refine blk_alloc ?_ _)); refine blk_far ?_ NB274_280.out _; (with_reducible repeat (first | refine blk_drewN ?_ _ | refine blk_drew ?_ | refine blk_alloc ?_ _)); refine blk_far ?_ NB274_280.out _; (with_reducible repeat (first | refine blk_drewN ?_ _ | refine blk_drew ?_ | refine blk_alloc ?_ _)); refine blk_far ?_ NB274_280.out _; (with_reducible repeat (first | refine blk_drewN ?_ _ | refine blk_drew ?_ | refine blk_alloc ?_ _)); exact BK274.out) hb); have n1_ := Aside0.mk (blk_below (g := gb280) (o := .cells #[.int .i64 t275, .int .i64 t276, .int .i64 t277, .int .i64 t278] 27 (0, 0)) (by (with_reducible repeat (first | refine blk_drewN ?_ _ | refine blk_drew ?_ | refine blk_alloc ?_ _)); refine blk_put (cs := #[.int .i64 t275, .int .i64 t276, .int .i64 t277, .int .i64 0]) ?_ 3 _ rfl; (with_reducible repeat (first | refine blk_drewN ?_ _ | refine blk_drew ?_ | refine blk_alloc ?_ _)); refine blk_put (cs := #[.int .i64 t275, .int .i64 t276, .int .i64 0, .int .i64 0]) ?_ 2 _ rfl; (with_reducible repeat (first | refine blk_drewN ?_ _ | refine blk_drew ?_ | refine blk_alloc ?_ _)); refine blk_put (cs := #[.int .i64 t275, .int .i64 0, .int .i64 0, .int .i64 0]) ?_ 1 _ rfl; (with_reducible repeat (first | refine blk_drewN ?_ _ | refine blk_drew ?_ | refine blk_alloc ?_ _)); refine blk_put (cs := #[.int .i64 0, .int .i64 0, .int .i64 0, .int .i64 0]) ?_ 0 _ rfl; (with_reducible repeat (first | refine blk_drewN ?_ _ | refine blk_drew ?_ | refine blk_alloc ?_ _)); exact BK280.out) hb); have n2_ := Aside0.mk (below_step (by repeat (first | (with_reducible first | exact HB.out | apply below_alloc | apply pw_below_drewN | apply below_drew1 | refine below_set ?_ GE274.out | refine below_set ?_ GE280.out) | exact HB.out)) hb); have n3_ := Aside0.mk (hbox); have n4_ := Aside0.mk ((by rw [hg]; exact (below_size (by repeat (first | (with_reducible first | exact HB.out | apply below_alloc | apply pw_below_drewN | apply below_drew1 | refine below_set ?_ GE274.out | refine below_set ?_ GE280.out) | exact HB.out))) : w.heap.size ≤ gb281)); have n5_ := Aside0.mk ((by rw [hg]; exact (below_size (by repeat (first | (with_reducible first | exact HB.out | apply below_alloc | apply pw_below_drewN | apply below_drew1 | refine below_set ?_ GE274.out | refine below_set ?_ GE280.out) | exact HB.out))) : w.heap.size ≤ gb281)); have n6_ := Aside0.mk ((by rw [hg]; exact Nat.ne_of_lt (blk_lt (g := gb274) (o := .cells #[.bool false, .int .i64 0, .int .i64 0, .int .i64 0, .int .i64 0, .slice none 0 0, .slice none 0 0, .int .i64 0, .bool false] 47 (0, 0)) (by (with_reducible repeat (first | refine blk_drewN ?_ _ | refine blk_drew ?_ | refine blk_alloc ?_ _)); refine blk_far ?_ NB274_280.out _; (with_reducible repeat (first | refine blk_drewN ?_ _ | refine blk_drew ?_ | refine blk_alloc ?_ _)); refine blk_far ?_ NB274_280.out _; (with_reducible repeat (first | refine blk_drewN ?_ _ | refine blk_drew ?_ | refine blk_alloc ?_ _)); refine blk_far ?_ NB274_280.out _; (with_reducible repeat (first | refine blk_drewN ?_ _ | refine blk_drew ?_ | refine blk_alloc ?_ _)); refine blk_far ?_ NB274_280.out _; (with_reducible repeat (first | refine blk_drewN ?_ _ | refine blk_drew ?_ | refine blk_alloc ?_ _)); exact BK274.out)) : gb274 ≠ gb281)); have n7_ := Aside0.mk ((by rw [hg]; exact Nat.ne_of_gt (blk_lt (g := gb274) (o := .cells #[.bool false, .int .i64 0, .int .i64 0, .int .i64 0, .int .i64 0, .slice none 0 0, .slice none 0 0, .int .i64 0, .bool false] 47 (0, 0)) (by (with_reducible repeat (first | refine blk_drewN ?_ _ | refine blk_drew ?_ | refine blk_alloc ?_ _)); refine blk_far ?_ NB274_280.out _; (with_reducible repeat (first | refine blk_drewN ?_ _ | refine blk_drew ?_ | refine blk_alloc ?_ _)); refine blk_far ?_ NB274_280.out _; (with_reducible repeat (first | refine blk_drewN ?_ _ | refine blk_drew ?_ | refine blk_alloc ?_ _)); refine blk_far ?_ NB274_280.out _; (with_reducible repeat (first | refine blk_drewN ?_ _ | refine blk_drew ?_ | refine blk_alloc ?_ _)); refine blk_far ?_ NB274_280.out _; (with_reducible repeat (first | refine blk_drewN ?_ _ | refine blk_drew ?_ | refine blk_alloc ?_ _)); exact BK274.out)) : gb281 ≠ gb274)); have n8_ := Aside0.mk ((by rw [hg]; exact Nat.ne_of_lt (blk_lt (g := gb280) (o := .cells #[.int .i64 t275, .int .i64 t276, .int .i64 t277, .int .i64 t278] 27 (0, 0)) (by (with_reducible repeat (first | refine blk_drewN ?_ _ | refine blk_drew ?_ | refine blk_alloc ?_ _)); refine blk_put (cs := #[.int .i64 t275, .int .i64 t276, .int .i64 t277, .int .i64 0]) ?_ 3 _ rfl; (with_reducible repeat (first | refine blk_drewN ?_ _ | refine blk_drew ?_ | refine blk_alloc ?_ _)); refine blk_put (cs := #[.int .i64 t275, .int .i64 t276, .int .i64 0, .int .i64 0]) ?_ 2 _ rfl; (with_reducible repeat (first | refine blk_drewN ?_ _ | refine blk_drew ?_ | refine blk_alloc ?_ _)); refine blk_put (cs := #[.int .i64 t275, .int .i64 0, .int .i64 0, .int .i64 0]) ?_ 1 _ rfl; (with_reducible repeat (first | refine blk_drewN ?_ _ | refine blk_drew ?_ | refine blk_alloc ?_ _)); refine blk_put (cs := #[.int .i64 0, .int .i64 0, .int .i64 0, .int .i64 0]) ?_ 0 _ rfl; (with_reducible repeat (first | refine blk_drewN ?_ _ | refine blk_drew ?_ | refine blk_alloc ?_ _)); exact BK280.out)) : gb280 ≠ gb281)); have n9_ := Aside0.mk ((by rw [hg]; exact Nat.ne_of_gt (blk_lt (g := gb280) (o := .cells #[.int .i64 t275, .int .i64 t276, .int .i64 t277, .int .i64 t278] 27 (0, 0)) (by (with_reducible repeat (first | refine blk_drewN ?_ _ | refine blk_drew ?_ | refine blk_alloc ?_ _)); refine blk_put (cs := #[.int .i64 t275, .int .i64 t276, .int .i64 t277, .int .i64 0]) ?_ 3 _ rfl; (with_reducible repeat (first | refine blk_drewN ?_ _ | refine blk_drew ?_ | refine blk_alloc ?_ _)); refine blk_put (cs := #[.int .i64 t275, .int .i64 t276, .int .i64 0, .int .i64 0]) ?_ 2 _ rfl; (with_reducible repeat (first | refine blk_drewN ?_ _ | refine blk_drew ?_ | refine blk_alloc ?_ _)); refine blk_put (cs := #[.int .i64 t275, .int .i64 0, .int .i64 0, .int .i64 0]) ?_ 1 _ rfl; (with_reducible repeat (first | refine blk_drewN ?_ _ | refine blk_drew ?_ | refine blk_alloc ?_ _)); refine blk_put (cs := #[.int .i64 0, .int .i64 0, .int .i64 0, .int .i64 0]) ?_ 0 _ rfl; (with_reducible repeat (first | refine blk_drewN ?_ _ | refine blk_drew ?_ | refine blk_alloc ?_ _)); exact BK280.out)) : gb281 ≠ gb280)); clear BK274; clear BK280; clear HB; have BK274 := n0_; have BK280 := n1_; have HB := n2_; have BK281 := n3_; have GW281 := n4_; have GE281 := n5_; have NB274_281 := n6_; have NB281_274 := n7_; have NB280_281 := n8_; have NB281_280 := n9_; clear n0_ n1_ n2_ n3_ n4_ n5_ n6_ n7_ n8_ n9_; clear hb hbox hg; have hnb10 := NB281_274.out; have hnc10 := NB274_281.out; have hnb11 := NB281_280.out; have hnc11 := NB280_281.out; have hcz12_0 : w9.cell? ⟨gb281, 0, none⟩ = some (.bool false) := (blk_cell BK281.out 0).trans rfl; have hcz12_1 : w9.cell? ⟨gb281, 1, none⟩ = some (.int .i64 0) := (blk_cell BK281.out 1).trans rfl; have hcz12_2 : w9.cell? ⟨gb281, 2, none⟩ = some (.int .i64 0) := (blk_cell BK281.out 2).trans rfl; have hcz12_3 : w9.cell? ⟨gb281, 3, none⟩ = some (.int .i64 0) := (blk_cell BK281.out 3).trans rfl; have hcz12_4 : w9.cell? ⟨gb281, 4, none⟩ = some (.int .i64 0) := (blk_cell BK281.out 4).trans rfl; have hcz12_5 : w9.cell? ⟨gb281, 5, none⟩ = some (.slice none 0 0) := (blk_cell BK281.out 5).trans rfl; have hcz12_6 : w9.cell? ⟨gb281, 6, none⟩ = some (.slice none 0 0) := (blk_cell BK281.out 6).trans rfl; have hcz12_7 : w9.cell? ⟨gb281, 7, none⟩ = some (.int .i64 0) := (blk_cell BK281.out 7).trans rfl; have hcz12_8 : w9.cell? ⟨gb281, 8, none⟩ = some (.bool false) := (blk_cell BK281.out 8).trans rfl; have hfz12_0 := blk_frozen BK281.out 0; have hfz12_1 := blk_frozen BK281.out 1; have hfz12_2 := blk_frozen BK281.out 2; have hfz12_3 := blk_frozen BK281.out 3; have hfz12_4 := blk_frozen BK281.out 4; have hfz12_5 := blk_frozen BK281.out 5; have hfz12_6 := blk_frozen BK281.out 6; have hfz12_7 := blk_frozen BK281.out 7; have hfz12_8 := blk_frozen BK281.out 8))
    go_loopg [] k (fun kq w' => ∃ (x275000_1 : Bool) (x275001_1 : Int) (x275002_1 : Int) (x275003_1 : Int) (x275004_1 : Int) (x275007_1 : Int) (x275008_1 : Bool) (x282005_1 : List ByteArray) (x282006_1 : List Int) (x282007_1 : Int) (x282008_1 : Bool) (u282005 : Value) (u282006 : Value), Aside0 (impl_ScanText.l0 kq a0 t275 t276 t277 t278 true t275 t276 t277 t278 x282005_1 x282006_1 x282007_1 x282008_1 = some (r1, r2, r3, r4, r5, r6, r7, r8, r9)) ∧ Aside0 (kq ≤ k) ∧ Aside0 (Kd.R Kd.string 9 w' w.heap.size (fun _ => True) u282005 x282005_1) ∧ Aside0 (Kd.R (Kd.int .i64) 3 w' w.heap.size (fun _ => True) u282006 x282006_1) ∧ Aside0 (w'.heap[gb274]? = some (.cells #[.bool x275000_1, .int .i64 x275001_1, .int .i64 x275002_1, .int .i64 x275003_1, .int .i64 x275004_1, (.slice none 0 0), (.slice none 0 0), .int .i64 x275007_1, .bool x275008_1] 47 (0, 0))) ∧ Aside0 (w'.heap[gb280]? = some (.cells #[.int .i64 t275, .int .i64 t276, .int .i64 t277, .int .i64 t278] 27 (0, 0))) ∧ Aside0 (w'.heap[gb281]? = some (.cells #[.bool true, .int .i64 t275, .int .i64 t276, .int .i64 t277, .int .i64 t278, u282005, u282006, .int .i64 x282007_1, .bool x282008_1] 47 (0, 0))) ∧ Aside0 (Below w.heap.size w w'))
    case atStart => exact ⟨(false), (0), (0), (0), (0), (0), (false), (([] : List ByteArray)), (([] : List Int)), (24), (false), (.slice none 0 0), (.slice none 0 0), H', ⟨Nat.le_refl _⟩, ⟨by first | exact Kd.R_nil _ _ _ _ _ | exact Kd.N_nil _ _ _ _ _ | exact Kd.V_nil _ _ _ _ _ | exact Kd.Q_nil _ _ _ _ _ | exact Kd.S_nil _ _ _ _ _⟩, ⟨by first | exact Kd.R_nil _ _ _ _ _ | exact Kd.N_nil _ _ _ _ _ | exact Kd.V_nil _ _ _ _ _ | exact Kd.Q_nil _ _ _ _ _ | exact Kd.S_nil _ _ _ _ _⟩, ⟨by (with_reducible repeat (first | refine blk_drewN ?_ _ | refine blk_drew ?_ | refine blk_alloc ?_ _)); refine blk_far ?_ NB274_281.out _; (with_reducible repeat (first | refine blk_drewN ?_ _ | refine blk_drew ?_ | refine blk_alloc ?_ _)); refine blk_far ?_ NB274_281.out _; (with_reducible repeat (first | refine blk_drewN ?_ _ | refine blk_drew ?_ | refine blk_alloc ?_ _)); refine blk_far ?_ NB274_281.out _; (with_reducible repeat (first | refine blk_drewN ?_ _ | refine blk_drew ?_ | refine blk_alloc ?_ _)); refine blk_far ?_ NB274_281.out _; (with_reducible repeat (first | refine blk_drewN ?_ _ | refine blk_drew ?_ | refine blk_alloc ?_ _)); refine blk_far ?_ NB274_281.out _; (with_reducible repeat (first | refine blk_drewN ?_ _ | refine blk_drew ?_ | refine blk_alloc ?_ _)); refine blk_far ?_ NB274_281.out _; (with_reducible repeat (first | refine blk_drewN ?_ _ | refine blk_drew ?_ | refine blk_alloc ?_ _)); refine blk_far ?_ NB274_281.out _; (with_reducible repeat (first | refine blk_drewN ?_ _ | refine blk_drew ?_ | refine blk_alloc ?_ _)); refine blk_far ?_ NB274_281.out _; (with_reducible repeat (first | refine blk_drewN ?_ _ | refine blk_drew ?_ | refine blk_alloc ?_ _)); refine blk_far ?_ NB274_281.out _; (with_reducible repeat (first | refine blk_drewN ?_ _ | refine blk_drew ?_ | refine blk_alloc ?_ _)); exact BK274.out⟩, ⟨by (with_reducible repeat (first | refine blk_drewN ?_ _ | refine blk_drew ?_ | refine blk_alloc ?_ _)); refine blk_far ?_ NB280_281.out _; (with_reducible repeat (first | refine blk_drewN ?_ _ | refine blk_drew ?_ | refine blk_alloc ?_ _)); refine blk_far ?_ NB280_281.out _; (with_reducible repeat (first | refine blk_drewN ?_ _ | refine blk_drew ?_ | refine blk_alloc ?_ _)); refine blk_far ?_ NB280_281.out _; (with_reducible repeat (first | refine blk_drewN ?_ _ | refine blk_drew ?_ | refine blk_alloc ?_ _)); refine blk_far ?_ NB280_281.out _; (with_reducible repeat (first | refine blk_drewN ?_ _ | refine blk_drew ?_ | refine blk_alloc ?_ _)); refine blk_far ?_ NB280_281.out _; (with_reducible repeat (first | refine blk_drewN ?_ _ | refine blk_drew ?_ | refine blk_alloc ?_ _)); refine blk_far ?_ NB280_281.out _; (with_reducible repeat (first | refine blk_drewN ?_ _ | refine blk_drew ?_ | refine blk_alloc ?_ _)); refine blk_far ?_ NB280_281.out _; (with_reducible repeat (first | refine blk_drewN ?_ _ | refine blk_drew ?_ | refine blk_alloc ?_ _)); refine blk_far ?_ NB280_281.out _; (with_reducible repeat (first | refine blk_drewN ?_ _ | refine blk_drew ?_ | refine blk_alloc ?_ _)); refine blk_far ?_ NB280_281.out _; (with_reducible repeat (first | refine blk_drewN ?_ _ | refine blk_drew ?_ | refine blk_alloc ?_ _)); exact BK280.out⟩, ⟨by (with_reducible repeat (first | refine blk_drewN ?_ _ | refine blk_drew ?_ | refine blk_alloc ?_ _)); refine blk_put (cs := #[.bool true, .int .i64 t275, .int .i64 t276, .int .i64 t277, .int .i64 t278, .slice none 0 0, .slice none 0 0, .int .i64 24, .bool false]) ?_ 8 _ rfl; (with_reducible repeat (first | refine blk_drewN ?_ _ | refine blk_drew ?_ | refine blk_alloc ?_ _)); refine blk_put (cs := #[.bool true, .int .i64 t275, .int .i64 t276, .int .i64 t277, .int .i64 t278, .slice none 0 0, .slice none 0 0, .int .i64 0, .bool false]) ?_ 7 _ rfl; (with_reducible repeat (first | refine blk_drewN ?_ _ | refine blk_drew ?_ | refine blk_alloc ?_ _)); refine blk_put (cs := #[.bool true, .int .i64 t275, .int .i64 t276, .int .i64 t277, .int .i64 t278, .slice none 0 0, .slice none 0 0, .int .i64 0, .bool false]) ?_ 6 _ rfl; (with_reducible repeat (first | refine blk_drewN ?_ _ | refine blk_drew ?_ | refine blk_alloc ?_ _)); refine blk_put (cs := #[.bool true, .int .i64 t275, .int .i64 t276, .int .i64 t277, .int .i64 t278, .slice none 0 0, .slice none 0 0, .int .i64 0, .bool false]) ?_ 5 _ rfl; (with_reducible repeat (first | refine blk_drewN ?_ _ | refine blk_drew ?_ | refine blk_alloc ?_ _)); refine blk_put (cs := #[.bool true, .int .i64 t275, .int .i64 t276, .int .i64 t277, .int .i64 0, .slice none 0 0, .slice none 0 0, .int .i64 0, .bool false]) ?_ 4 _ rfl; (with_reducible repeat (first | refine blk_drewN ?_ _ | refine blk_drew ?_ | refine blk_alloc ?_ _)); refine blk_put (cs := #[.bool true, .int .i64 t275, .int .i64 t276, .int .i64 0, .int .i64 0, .slice none 0 0, .slice none 0 0, .int .i64 0, .bool false]) ?_ 3 _ rfl; (with_reducible repeat (first | refine blk_drewN ?_ _ | refine blk_drew ?_ | refine blk_alloc ?_ _)); refine blk_put (cs := #[.bool true, .int .i64 t275, .int .i64 0, .int .i64 0, .int .i64 0, .slice none 0 0, .slice none 0 0, .int .i64 0, .bool false]) ?_ 2 _ rfl; (with_reducible repeat (first | refine blk_drewN ?_ _ | refine blk_drew ?_ | refine blk_alloc ?_ _)); refine blk_put (cs := #[.bool true, .int .i64 0, .int .i64 0, .int .i64 0, .int .i64 0, .slice none 0 0, .slice none 0 0, .int .i64 0, .bool false]) ?_ 1 _ rfl; (with_reducible repeat (first | refine blk_drewN ?_ _ | refine blk_drew ?_ | refine blk_alloc ?_ _)); refine blk_put (cs := #[.bool false, .int .i64 0, .int .i64 0, .int .i64 0, .int .i64 0, .slice none 0 0, .slice none 0 0, .int .i64 0, .bool false]) ?_ 0 _ rfl; (with_reducible repeat (first | refine blk_drewN ?_ _ | refine blk_drew ?_ | refine blk_alloc ?_ _)); exact BK281.out⟩, ⟨by repeat (first | (with_reducible first | exact HB.out | apply below_alloc | apply pw_below_drewN | apply below_drew1 | refine below_set ?_ GE274.out | refine below_set ?_ GE280.out | refine below_set ?_ GE281.out) | exact HB.out)⟩⟩
    case round =>
      clear H'
      try clear c1
      try clear p2
      try clear c3
      try clear c7
      try clear c10
      try clear c11
      try clear hcz12_0
      try clear hcz12_1
      try clear hcz12_2
      try clear hcz12_3
      try clear hcz12_4
      try clear hcz12_5
      try clear hcz12_6
      try clear hcz12_7
      try clear hcz12_8
      try clear hcz8_0
      try clear hcz8_1
      try clear hcz8_2
      try clear hcz8_3
      try clear hfz12_0
      try clear hfz12_1
      try clear hfz12_2
      try clear hfz12_3
      try clear hfz12_4
      try clear hfz12_5
      try clear hfz12_6
      try clear hfz12_7
      try clear hfz12_8
      try clear hfz8_0
      try clear hfz8_1
      try clear hfz8_2
      try clear hfz8_3
      obtain ⟨x275000_1, x275001_1, x275002_1, x275003_1, x275004_1, x275007_1, x275008_1, x282005_1, x282006_1, x282007_1, x282008_1, u282005, u282006, HA, HK1, HO_282005, HO_282006, BK274, BK280, BK281, HB⟩ := hrel
      cases gk with
      | zero => exact absurd HA.out (by simp [impl_ScanText.l0])
      | succ k1 =>
        have H := HA.out
        clear HA
        simp only [impl_ScanText.l0] at H
        replace H := Option.bind_eq_some_iff.mp H
        obtain ⟨t282, A130, H⟩ := H
        replace H : (if t282 = true then (some (true, t275, t276, t277, t278, x282005_1, x282006_1, x282007_1, true)) else ((impl_ReadFrame.f k1 t275 (wrap64 (t277 + (x282005_1.length : Int))) a0 x282007_1).bind fun bt283 => (if bt283.2.2 = true then (if x282005_1.length < 8796093022208 then (if x282006_1.length < 17592186044416 then (impl_ScanText.l0 k1 a0 t275 t276 t277 t278 true t275 t276 t277 t278 (x282005_1 ++ [bt283.1]) (x282006_1 ++ [x282007_1]) bt283.2.1 x282008_1) else (none)) else (none)) else (some (true, t275, t276, t277, t278, x282005_1, x282006_1, x282007_1, x282008_1))))) = some (r1, r2, r3, r4, r5, r6, r7, r8, r9) := H
        have A13 := Aside0.mk A130
        clear A130
        by_cases c14 : t282 = true
        · subst c14
          have H1 : (some (true, t275, t276, t277, t278, x282005_1, x282006_1, x282007_1, true)) = some (r1, r2, r3, r4, r5, r6, r7, r8, r9) := by rw [if_pos rfl] at H; exact H
          clear H
          have H := H1
          clear H1
          simp only [Option.some.injEq, Prod.mk.injEq] at H
          obtain ⟨rfl, rfl, rfl, rfl, rfl, rfl, rfl, rfl, rfl⟩ := H
          have hnb15 := NB280_274.out
          have hnc15 := NB274_280.out
          have hnb16 := NB280_281.out
          have hnc16 := NB281_280.out
          have hcz17_0 : wr.cell? ⟨gb280, 0, none⟩ = some (.int .i64 t275) := (blk_cell BK280.out 0).trans rfl
          have hcz17_1 : wr.cell? ⟨gb280, 1, none⟩ = some (.int .i64 t276) := (blk_cell BK280.out 1).trans rfl
          have hcz17_2 : wr.cell? ⟨gb280, 2, none⟩ = some (.int .i64 t277) := (blk_cell BK280.out 2).trans rfl
          have hcz17_3 : wr.cell? ⟨gb280, 3, none⟩ = some (.int .i64 t278) := (blk_cell BK280.out 3).trans rfl
          have hfz17_0 := blk_frozen BK280.out 0
          have hfz17_1 := blk_frozen BK280.out 1
          have hfz17_2 := blk_frozen BK280.out 2
          have hfz17_3 := blk_frozen BK280.out 3
          have hnb18 := NB281_274.out
          have hnc18 := NB274_281.out
          have hcz19_0 : wr.cell? ⟨gb281, 0, none⟩ = some (.bool true) := (blk_cell BK281.out 0).trans rfl
          have hcz19_1 : wr.cell? ⟨gb281, 1, none⟩ = some (.int .i64 t275) := (blk_cell BK281.out 1).trans rfl
          have hcz19_2 : wr.cell? ⟨gb281, 2, none⟩ = some (.int .i64 t276) := (blk_cell BK281.out 2).trans rfl
          have hcz19_3 : wr.cell? ⟨gb281, 3, none⟩ = some (.int .i64 t277) := (blk_cell BK281.out 3).trans rfl
          have hcz19_4 : wr.cell? ⟨gb281, 4, none⟩ = some (.int .i64 t278) := (blk_cell BK281.out 4).trans rfl
          have hcz19_5 : wr.cell? ⟨gb281, 5, none⟩ = some (u282005) := (blk_cell BK281.out 5).trans rfl
          have hcz19_6 : wr.cell? ⟨gb281, 6, none⟩ = some (u282006) := (blk_cell BK281.out 6).trans rfl
          have hcz19_7 : wr.cell? ⟨gb281, 7, none⟩ = some (.int .i64 x282007_1) := (blk_cell BK281.out 7).trans rfl
          have hcz19_8 : wr.cell? ⟨gb281, 8, none⟩ = some (.bool x282008_1) := (blk_cell BK281.out 8).trans rfl
          have hfz19_0 := blk_frozen BK281.out 0
          have hfz19_1 := blk_frozen BK281.out 1
          have hfz19_2 := blk_frozen BK281.out 2
          have hfz19_3 := blk_frozen BK281.out 3
          have hfz19_4 := blk_frozen BK281.out 4
          have hfz19_5 := blk_frozen BK281.out 5
          have hfz19_6 := blk_frozen BK281.out 6
          have hfz19_7 := blk_frozen BK281.out 7
          have hfz19_8 := blk_frozen BK281.out 8
          obtain ⟨Ao20, co20, eo20⟩ := Kd.R_slice HO_282005.out
          subst eo20
          go_wp2_with (first | ((with_reducible refine gate_callee (f := 102) rfl ?_); refine goesL_ (some 32) rfl rfl Try.func102 (by kernel_rfl) rfl #[.int .i64 t275, .int .i64 (wrap64 (t277 + (x282005_1.length : Int))), .string a0, .int .i64 x282007_1] rfl (by (try simp only [List.map_toArray, List.map_cons, List.map_nil]); first | done | rfl | (simp only [List.length_drop, List.length_take]; rfl)) ?_; (with_reducible refine (impl_MarkAt.calls k1 t275 (wrap64 (t277 + (x282005_1.length : Int))) a0 x282007_1 true _ A13.out).mono ?_); rintro e w21 ⟨rfl, hb⟩; refine ⟨_, rfl, ?_⟩; have n0_ := Aside0.mk (Kd.R_below (by (with_reducible repeat (first | apply Kd.R_alloc | apply Kd.R_drewN | apply Kd.R_drew)); exact HO_282005.out) hb); have n1_ := Aside0.mk (Kd.R_below (by (with_reducible repeat (first | apply Kd.R_alloc | apply Kd.R_drewN | apply Kd.R_drew)); exact HO_282006.out) hb); have n2_ := Aside0.mk (blk_below (g := gb274) (o := .cells #[.bool x275000_1, .int .i64 x275001_1, .int .i64 x275002_1, .int .i64 x275003_1, .int .i64 x275004_1, .slice none 0 0, .slice none 0 0, .int .i64 x275007_1, .bool x275008_1] 47 (0, 0)) (by (with_reducible repeat (first | refine blk_drewN ?_ _ | refine blk_drew ?_ | refine blk_alloc ?_ _)); exact BK274.out) hb); have n3_ := Aside0.mk (blk_below (g := gb280) (o := .cells #[.int .i64 t275, .int .i64 t276, .int .i64 t277, .int .i64 t278] 27 (0, 0)) (by (with_reducible repeat (first | refine blk_drewN ?_ _ | refine blk_drew ?_ | refine blk_alloc ?_ _)); exact BK280.out) hb); have n4_ := Aside0.mk (blk_below (g := gb281) (o := .cells #[.bool true, .int .i64 t275, .int .i64 t276, .int .i64 t277, .int .i64 t278, .slice Ao20 x282005_1.length co20, u282006, .int .i64 x282007_1, .bool x282008_1] 47 (0, 0)) (by (with_reducible repeat (first | refine blk_drewN ?_ _ | refine blk_drew ?_ | refine blk_alloc ?_ _)); exact BK281.out) hb); have n5_ := Aside0.mk (below_step (by repeat (first | (with_reducible first | exact HB.out | apply below_alloc | apply pw_below_drewN | apply below_drew1 | refine below_set ?_ GE274.out | refine below_set ?_ GE280.out | refine below_set ?_ GE281.out) | exact HB.out)) hb); clear HO_282005; clear HO_282006; clear BK274; clear BK280; clear BK281; clear HB; have HO_282005 := n0_; have HO_282006 := n1_; have BK274 := n2_; have BK280 := n3_; have BK281 := n4_; have HB := n5_; clear n0_ n1_ n2_ n3_ n4_ n5_; (try clear hb); (try clear hb2); (try clear hk); (try clear hi); have hcz22_0 : w21.cell? ⟨gb281, 0, none⟩ = some (.bool true) := (blk_cell BK281.out 0).trans rfl; have hcz22_1 : w21.cell? ⟨gb281, 1, none⟩ = some (.int .i64 t275) := (blk_cell BK281.out 1).trans rfl; have hcz22_2 : w21.cell? ⟨gb281, 2, none⟩ = some (.int .i64 t276) := (blk_cell BK281.out 2).trans rfl; have hcz22_3 : w21.cell? ⟨gb281, 3, none⟩ = some (.int .i64 t277) := (blk_cell BK281.out 3).trans rfl; have hcz22_4 : w21.cell? ⟨gb281, 4, none⟩ = some (.int .i64 t278) := (blk_cell BK281.out 4).trans rfl; have hcz22_5 : w21.cell? ⟨gb281, 5, none⟩ = some (.slice Ao20 x282005_1.length co20) := (blk_cell BK281.out 5).trans rfl; have hcz22_6 : w21.cell? ⟨gb281, 6, none⟩ = some (u282006) := (blk_cell BK281.out 6).trans rfl; have hcz22_7 : w21.cell? ⟨gb281, 7, none⟩ = some (.int .i64 x282007_1) := (blk_cell BK281.out 7).trans rfl; have hcz22_8 : w21.cell? ⟨gb281, 8, none⟩ = some (.bool x282008_1) := (blk_cell BK281.out 8).trans rfl; have hfz22_0 := blk_frozen BK281.out 0; have hfz22_1 := blk_frozen BK281.out 1; have hfz22_2 := blk_frozen BK281.out 2; have hfz22_3 := blk_frozen BK281.out 3; have hfz22_4 := blk_frozen BK281.out 4; have hfz22_5 := blk_frozen BK281.out 5; have hfz22_6 := blk_frozen BK281.out 6; have hfz22_7 := blk_frozen BK281.out 7; have hfz22_8 := blk_frozen BK281.out 8; have hcz23_0 : w21.cell? ⟨gb274, 0, none⟩ = some (.bool x275000_1) := (blk_cell BK274.out 0).trans rfl; have hcz23_1 : w21.cell? ⟨gb274, 1, none⟩ = some (.int .i64 x275001_1) := (blk_cell BK274.out 1).trans rfl; have hcz23_2 : w21.cell? ⟨gb274, 2, none⟩ = some (.int .i64 x275002_1) := (blk_cell BK274.out 2).trans rfl; have hcz23_3 : w21.cell? ⟨gb274, 3, none⟩ = some (.int .i64 x275003_1) := (blk_cell BK274.out 3).trans rfl; have hcz23_4 : w21.cell? ⟨gb274, 4, none⟩ = some (.int .i64 x275004_1) := (blk_cell BK274.out 4).trans rfl; have hcz23_5 : w21.cell? ⟨gb274, 5, none⟩ = some (.slice none 0 0) := (blk_cell BK274.out 5).trans rfl; have hcz23_6 : w21.cell? ⟨gb274, 6, none⟩ = some (.slice none 0 0) := (blk_cell BK274.out 6).trans rfl; have hcz23_7 : w21.cell? ⟨gb274, 7, none⟩ = some (.int .i64 x275007_1) := (blk_cell BK274.out 7).trans rfl; have hcz23_8 : w21.cell? ⟨gb274, 8, none⟩ = some (.bool x275008_1) := (blk_cell BK274.out 8).trans rfl; have hfz23_0 := blk_frozen BK274.out 0; have hfz23_1 := blk_frozen BK274.out 1; have hfz23_2 := blk_frozen BK274.out 2; have hfz23_3 := blk_frozen BK274.out 3; have hfz23_4 := blk_frozen BK274.out 4; have hfz23_5 := blk_frozen BK274.out 5; have hfz23_6 := blk_frozen BK274.out 6; have hfz23_7 := blk_frozen BK274.out 7; have hfz23_8 := blk_frozen BK274.out 8; obtain ⟨Ao24, co24, eo24⟩ := Kd.R_slice HO_282006.out; subst eo24))
          refine bodyPost_ret (results_cell_row rfl _ _ gb274 47 #[.bool true, .int .i64 t275, .int .i64 t276, .int .i64 t277, .int .i64 t278, .slice Ao20 x282005_1.length co20, .slice Ao24 x282006_1.length co24, .int .i64 x282007_1, .bool true] (0, 0) _ rfl (by (with_reducible repeat (first | refine blk_drewN ?_ _ | refine blk_drew ?_ | refine blk_alloc ?_ _)); refine blk_put (cs := #[.bool true, .int .i64 t275, .int .i64 t276, .int .i64 t277, .int .i64 t278, .slice Ao20 x282005_1.length co20, .slice Ao24 x282006_1.length co24, .int .i64 x282007_1, .bool x275008_1]) ?_ 8 _ rfl; (with_reducible repeat (first | refine blk_drewN ?_ _ | refine blk_drew ?_ | refine blk_alloc ?_ _)); refine blk_put (cs := #[.bool true, .int .i64 t275, .int .i64 t276, .int .i64 t277, .int .i64 t278, .slice Ao20 x282005_1.length co20, .slice Ao24 x282006_1.length co24, .int .i64 x275007_1, .bool x275008_1]) ?_ 7 _ rfl; (with_reducible repeat (first | refine blk_drewN ?_ _ | refine blk_drew ?_ | refine blk_alloc ?_ _)); refine blk_put (cs := #[.bool true, .int .i64 t275, .int .i64 t276, .int .i64 t277, .int .i64 t278, .slice Ao20 x282005_1.length co20, .slice none 0 0, .int .i64 x275007_1, .bool x275008_1]) ?_ 6 _ rfl; (with_reducible repeat (first | refine blk_drewN ?_ _ | refine blk_drew ?_ | refine blk_alloc ?_ _)); refine blk_put (cs := #[.bool true, .int .i64 t275, .int .i64 t276, .int .i64 t277, .int .i64 t278, .slice none 0 0, .slice none 0 0, .int .i64 x275007_1, .bool x275008_1]) ?_ 5 _ rfl; (with_reducible repeat (first | refine blk_drewN ?_ _ | refine blk_drew ?_ | refine blk_alloc ?_ _)); refine blk_put (cs := #[.bool true, .int .i64 t275, .int .i64 t276, .int .i64 t277, .int .i64 x275004_1, .slice none 0 0, .slice none 0 0, .int .i64 x275007_1, .bool x275008_1]) ?_ 4 _ rfl; (with_reducible repeat (first | refine blk_drewN ?_ _ | refine blk_drew ?_ | refine blk_alloc ?_ _)); refine blk_put (cs := #[.bool true, .int .i64 t275, .int .i64 t276, .int .i64 x275003_1, .int .i64 x275004_1, .slice none 0 0, .slice none 0 0, .int .i64 x275007_1, .bool x275008_1]) ?_ 3 _ rfl; (with_reducible repeat (first | refine blk_drewN ?_ _ | refine blk_drew ?_ | refine blk_alloc ?_ _)); refine blk_put (cs := #[.bool true, .int .i64 t275, .int .i64 x275002_1, .int .i64 x275003_1, .int .i64 x275004_1, .slice none 0 0, .slice none 0 0, .int .i64 x275007_1, .bool x275008_1]) ?_ 2 _ rfl; (with_reducible repeat (first | refine blk_drewN ?_ _ | refine blk_drew ?_ | refine blk_alloc ?_ _)); refine blk_put (cs := #[.bool true, .int .i64 x275001_1, .int .i64 x275002_1, .int .i64 x275003_1, .int .i64 x275004_1, .slice none 0 0, .slice none 0 0, .int .i64 x275007_1, .bool x275008_1]) ?_ 1 _ rfl; (with_reducible repeat (first | refine blk_drewN ?_ _ | refine blk_drew ?_ | refine blk_alloc ?_ _)); refine blk_put (cs := #[.bool x275000_1, .int .i64 x275001_1, .int .i64 x275002_1, .int .i64 x275003_1, .int .i64 x275004_1, .slice none 0 0, .slice none 0 0, .int .i64 x275007_1, .bool x275008_1]) ?_ 0 _ rfl; (with_reducible repeat (first | refine blk_drewN ?_ _ | refine blk_drew ?_ | refine blk_alloc ?_ _)); refine blk_far ?_ NB274_281.out _; (with_reducible repeat (first | refine blk_drewN ?_ _ | refine blk_drew ?_ | refine blk_alloc ?_ _)); exact BK274.out) Try.underlying47 rfl (by kernel_rfl)) rfl ?_
          exact ⟨_, _, by first | rfl | (simp [errW_none, errW_some] <;> rfl) | (simp [*, errW_none, errW_some] <;> rfl), by (with_reducible repeat (first | apply Kd.R_alloc | apply Kd.R_drewN | apply Kd.R_drew)); exact Kd.R_mono (Kd.R_far (p := ⟨gb274, 8, none⟩) (Kd.R_far (p := ⟨gb274, 7, none⟩) (Kd.R_far (p := ⟨gb274, 6, none⟩) (Kd.R_far (p := ⟨gb274, 5, none⟩) (Kd.R_far (p := ⟨gb274, 4, none⟩) (Kd.R_far (p := ⟨gb274, 3, none⟩) (Kd.R_far (p := ⟨gb274, 2, none⟩) (Kd.R_far (p := ⟨gb274, 1, none⟩) (Kd.R_far (p := ⟨gb274, 0, none⟩) (Kd.R_far (p := ⟨gb281, 8, none⟩) (Kd.R_types (Kd.R_types HO_282005.out BK281.out (by decide)) BK274.out (by decide)) (fun _ hk => hk.1.2) (.bool true)) (fun _ hk => hk.2) (.bool true)) (fun _ hk => hk.2) (.int .i64 t275)) (fun _ hk => hk.2) (.int .i64 t276)) (fun _ hk => hk.2) (.int .i64 t277)) (fun _ hk => hk.2) (.int .i64 t278)) (fun _ hk => hk.2) (.slice Ao20 x282005_1.length co20)) (fun _ hk => hk.2) (.slice Ao24 x282006_1.length co24)) (fun _ hk => hk.2) (.int .i64 x282007_1)) (fun _ hk => hk.2) (.bool true)) (fun _ hk => trivial), by (with_reducible repeat (first | apply Kd.R_alloc | apply Kd.R_drewN | apply Kd.R_drew)); exact Kd.R_mono (Kd.R_far (p := ⟨gb274, 8, none⟩) (Kd.R_far (p := ⟨gb274, 7, none⟩) (Kd.R_far (p := ⟨gb274, 6, none⟩) (Kd.R_far (p := ⟨gb274, 5, none⟩) (Kd.R_far (p := ⟨gb274, 4, none⟩) (Kd.R_far (p := ⟨gb274, 3, none⟩) (Kd.R_far (p := ⟨gb274, 2, none⟩) (Kd.R_far (p := ⟨gb274, 1, none⟩) (Kd.R_far (p := ⟨gb274, 0, none⟩) (Kd.R_far (p := ⟨gb281, 8, none⟩) (Kd.R_types (Kd.R_types HO_282006.out BK281.out (by decide)) BK274.out (by decide)) (fun _ hk => hk.1.2) (.bool true)) (fun _ hk => hk.2) (.bool true)) (fun _ hk => hk.2) (.int .i64 t275)) (fun _ hk => hk.2) (.int .i64 t276)) (fun _ hk => hk.2) (.int .i64 t277)) (fun _ hk => hk.2) (.int .i64 t278)) (fun _ hk => hk.2) (.slice Ao20 x282005_1.length co20)) (fun _ hk => hk.2) (.slice Ao24 x282006_1.length co24)) (fun _ hk => hk.2) (.int .i64 x282007_1)) (fun _ hk => hk.2) (.bool true)) (fun _ hk => trivial), by repeat (first | (with_reducible first | exact HB.out | apply below_alloc | apply pw_below_drewN | apply below_drew1 | refine below_set ?_ GE274.out | refine below_set ?_ GE280.out | refine below_set ?_ GE281.out) | exact HB.out)⟩
        · replace c14 := Bool.eq_false_iff.mpr c14
          subst c14
          have H1 : ((impl_ReadFrame.f k1 t275 (wrap64 (t277 + (x282005_1.length : Int))) a0 x282007_1).bind fun bt283 => (if bt283.2.2 = true then (if x282005_1.length < 8796093022208 then (if x282006_1.length < 17592186044416 then (impl_ScanText.l0 k1 a0 t275 t276 t277 t278 true t275 t276 t277 t278 (x282005_1 ++ [bt283.1]) (x282006_1 ++ [x282007_1]) bt283.2.1 x282008_1) else (none)) else (none)) else (some (true, t275, t276, t277, t278, x282005_1, x282006_1, x282007_1, x282008_1)))) = some (r1, r2, r3, r4, r5, r6, r7, r8, r9) := by rw [if_neg (show ¬ (false = true) by decide)] at H; exact H
          clear H
          have H := H1
          clear H1
          replace H := Option.bind_eq_some_iff.mp H
          obtain ⟨⟨t283, t284, t285⟩, A250, H⟩ := H
          replace H : (if t285 = true then (if x282005_1.length < 8796093022208 then (if x282006_1.length < 17592186044416 then (impl_ScanText.l0 k1 a0 t275 t276 t277 t278 true t275 t276 t277 t278 (x282005_1 ++ [t283]) (x282006_1 ++ [x282007_1]) t284 x282008_1) else (none)) else (none)) else (some (true, t275, t276, t277, t278, x282005_1, x282006_1, x282007_1, x282008_1))) = some (r1, r2, r3, r4, r5, r6, r7, r8, r9) := H
          have A25 := Aside0.mk A250
          clear A250
          by_cases c26 : t285 = true
          · subst c26
            have H1 : (if x282005_1.length < 8796093022208 then (if x282006_1.length < 17592186044416 then (impl_ScanText.l0 k1 a0 t275 t276 t277 t278 true t275 t276 t277 t278 (x282005_1 ++ [t283]) (x282006_1 ++ [x282007_1]) t284 x282008_1) else (none)) else (none)) = some (r1, r2, r3, r4, r5, r6, r7, r8, r9) := by rw [if_pos rfl] at H; exact H
            clear H
            have H := H1
            clear H1
            by_cases c27 : x282005_1.length < 8796093022208
            · rw [if_pos c27] at H
              have LMc27 := Aside0.mk c27
              clear c27
              obtain ⟨y286, hy286⟩ : ∃ y_ : List ByteArray, y_ = (x282005_1 ++ [t283]) := ⟨_, rfl⟩
              replace H : (if x282006_1.length < 17592186044416 then (impl_ScanText.l0 k1 a0 t275 t276 t277 t278 true t275 t276 t277 t278 y286 (x282006_1 ++ [x282007_1]) t284 x282008_1) else (none)) = some (r1, r2, r3, r4, r5, r6, r7, r8, r9) := by first | (rw [hy286]; with_reducible exact H) | (have H2_ := (Option.bind_some _ _).symm.trans H; rw [hy286]; with_reducible exact H2_) | (have H2_ := (Option.bind_some _ _).symm.trans H; with_reducible exact H2_) | with_reducible exact H | (rw [hy286]; exact H) | exact H
              have Ny286 := Aside0.mk hy286
              clear hy286
              by_cases c28 : x282006_1.length < 17592186044416
              · rw [if_pos c28] at H
                have LMc28 := Aside0.mk c28
                clear c28
                obtain ⟨y289, hy289⟩ : ∃ y_ : List Int, y_ = (x282006_1 ++ [x282007_1]) := ⟨_, rfl⟩
                replace H : (impl_ScanText.l0 k1 a0 t275 t276 t277 t278 true t275 t276 t277 t278 y286 y289 t284 x282008_1) = some (r1, r2, r3, r4, r5, r6, r7, r8, r9) := by first | (rw [hy289]; with_reducible exact H) | (have H2_ := (Option.bind_some _ _).symm.trans H; rw [hy289]; with_reducible exact H2_) | (have H2_ := (Option.bind_some _ _).symm.trans H; with_reducible exact H2_) | with_reducible exact H | (rw [hy289]; exact H) | exact H
                have Ny289 := Aside0.mk hy289
                clear hy289
                have H' := Aside0.mk H
                clear H
                have hnb29 := NB280_274.out
                have hnc29 := NB274_280.out
                have hnb30 := NB280_281.out
                have hnc30 := NB281_280.out
                have hcz31_0 : wr.cell? ⟨gb280, 0, none⟩ = some (.int .i64 t275) := (blk_cell BK280.out 0).trans rfl
                have hcz31_1 : wr.cell? ⟨gb280, 1, none⟩ = some (.int .i64 t276) := (blk_cell BK280.out 1).trans rfl
                have hcz31_2 : wr.cell? ⟨gb280, 2, none⟩ = some (.int .i64 t277) := (blk_cell BK280.out 2).trans rfl
                have hcz31_3 : wr.cell? ⟨gb280, 3, none⟩ = some (.int .i64 t278) := (blk_cell BK280.out 3).trans rfl
                have hfz31_0 := blk_frozen BK280.out 0
                have hfz31_1 := blk_frozen BK280.out 1
                have hfz31_2 := blk_frozen BK280.out 2
                have hfz31_3 := blk_frozen BK280.out 3
                have hnb32 := NB281_274.out
                have hnc32 := NB274_281.out
                have hcz33_0 : wr.cell? ⟨gb281, 0, none⟩ = some (.bool true) := (blk_cell BK281.out 0).trans rfl
                have hcz33_1 : wr.cell? ⟨gb281, 1, none⟩ = some (.int .i64 t275) := (blk_cell BK281.out 1).trans rfl
                have hcz33_2 : wr.cell? ⟨gb281, 2, none⟩ = some (.int .i64 t276) := (blk_cell BK281.out 2).trans rfl
                have hcz33_3 : wr.cell? ⟨gb281, 3, none⟩ = some (.int .i64 t277) := (blk_cell BK281.out 3).trans rfl
                have hcz33_4 : wr.cell? ⟨gb281, 4, none⟩ = some (.int .i64 t278) := (blk_cell BK281.out 4).trans rfl
                have hcz33_5 : wr.cell? ⟨gb281, 5, none⟩ = some (u282005) := (blk_cell BK281.out 5).trans rfl
                have hcz33_6 : wr.cell? ⟨gb281, 6, none⟩ = some (u282006) := (blk_cell BK281.out 6).trans rfl
                have hcz33_7 : wr.cell? ⟨gb281, 7, none⟩ = some (.int .i64 x282007_1) := (blk_cell BK281.out 7).trans rfl
                have hcz33_8 : wr.cell? ⟨gb281, 8, none⟩ = some (.bool x282008_1) := (blk_cell BK281.out 8).trans rfl
                have hfz33_0 := blk_frozen BK281.out 0
                have hfz33_1 := blk_frozen BK281.out 1
                have hfz33_2 := blk_frozen BK281.out 2
                have hfz33_3 := blk_frozen BK281.out 3
                have hfz33_4 := blk_frozen BK281.out 4
                have hfz33_5 := blk_frozen BK281.out 5
                have hfz33_6 := blk_frozen BK281.out 6
                have hfz33_7 := blk_frozen BK281.out 7
                have hfz33_8 := blk_frozen BK281.out 8
                obtain ⟨Ao34, co34, eo34⟩ := Kd.R_slice HO_282005.out
                subst eo34
                go_wp2_with (first | ((with_reducible refine gate_callee (f := 102) rfl ?_); refine goesL_ (some 32) rfl rfl Try.func102 (by kernel_rfl) rfl #[.int .i64 t275, .int .i64 (wrap64 (t277 + (x282005_1.length : Int))), .string a0, .int .i64 x282007_1] rfl (by (try simp only [List.map_toArray, List.map_cons, List.map_nil]); first | done | rfl | (simp only [List.length_drop, List.length_take]; rfl)) ?_; (with_reducible refine (impl_MarkAt.calls k1 t275 (wrap64 (t277 + (x282005_1.length : Int))) a0 x282007_1 false _ A13.out).mono ?_); rintro e w35 ⟨rfl, hb⟩; refine ⟨_, rfl, ?_⟩; have n0_ := Aside0.mk (Kd.R_below (by (with_reducible repeat (first | apply Kd.R_alloc | apply Kd.R_drewN | apply Kd.R_drew)); exact HO_282005.out) hb); have n1_ := Aside0.mk (Kd.R_below (by (with_reducible repeat (first | apply Kd.R_alloc | apply Kd.R_drewN | apply Kd.R_drew)); exact HO_282006.out) hb); have n2_ := Aside0.mk (blk_below (g := gb274) (o := .cells #[.bool x275000_1, .int .i64 x275001_1, .int .i64 x275002_1, .int .i64 x275003_1, .int .i64 x275004_1, .slice none 0 0, .slice none 0 0, .int .i64 x275007_1, .bool x275008_1] 47 (0, 0)) (by (with_reducible repeat (first | refine blk_drewN ?_ _ | refine blk_drew ?_ | refine blk_alloc ?_ _)); exact BK274.out) hb); have n3_ := Aside0.mk (blk_below (g := gb280) (o := .cells #[.int .i64 t275, .int .i64 t276, .int .i64 t277, .int .i64 t278] 27 (0, 0)) (by (with_reducible repeat (first | refine blk_drewN ?_ _ | refine blk_drew ?_ | refine blk_alloc ?_ _)); exact BK280.out) hb); have n4_ := Aside0.mk (blk_below (g := gb281) (o := .cells #[.bool true, .int .i64 t275, .int .i64 t276, .int .i64 t277, .int .i64 t278, .slice Ao34 x282005_1.length co34, u282006, .int .i64 x282007_1, .bool x282008_1] 47 (0, 0)) (by (with_reducible repeat (first | refine blk_drewN ?_ _ | refine blk_drew ?_ | refine blk_alloc ?_ _)); exact BK281.out) hb); have n5_ := Aside0.mk (below_step (by repeat (first | (with_reducible first | exact HB.out | apply below_alloc | apply pw_below_drewN | apply below_drew1 | refine below_set ?_ GE274.out | refine below_set ?_ GE280.out | refine below_set ?_ GE281.out) | exact HB.out)) hb); clear HO_282005; clear HO_282006; clear BK274; clear BK280; clear BK281; clear HB; have HO_282005 := n0_; have HO_282006 := n1_; have BK274 := n2_; have BK280 := n3_; have BK281 := n4_; have HB := n5_; clear n0_ n1_ n2_ n3_ n4_ n5_; (try clear hb); (try clear hb2); (try clear hk); (try clear hi); have hcz36_0 : w35.cell? ⟨gb280, 0, none⟩ = some (.int .i64 t275) := (blk_cell BK280.out 0).trans rfl; have hcz36_1 : w35.cell? ⟨gb280, 1, none⟩ = some (.int .i64 t276) := (blk_cell BK280.out 1).trans rfl; have hcz36_2 : w35.cell? ⟨gb280, 2, none⟩ = some (.int .i64 t277) := (blk_cell BK280.out 2).trans rfl; have hcz36_3 : w35.cell? ⟨gb280, 3, none⟩ = some (.int .i64 t278) := (blk_cell BK280.out 3).trans rfl; have hfz36_0 := blk_frozen BK280.out 0; have hfz36_1 := blk_frozen BK280.out 1; have hfz36_2 := blk_frozen BK280.out 2; have hfz36_3 := blk_frozen BK280.out 3; have hcz37_0 : w35.cell? ⟨gb281, 0, none⟩ = some (.bool true) := (blk_cell BK281.out 0).trans rfl; have hcz37_1 : w35.cell? ⟨gb281, 1, none⟩ = some (.int .i64 t275) := (blk_cell BK281.out 1).trans rfl; have hcz37_2 : w35.cell? ⟨gb281, 2, none⟩ = some (.int .i64 t276) := (blk_cell BK281.out 2).trans rfl; have hcz37_3 : w35.cell? ⟨gb281, 3, none⟩ = some (.int .i64 t277) := (blk_cell BK281.out 3).trans rfl; have hcz37_4 : w35.cell? ⟨gb281, 4, none⟩ = some (.int .i64 t278) := (blk_cell BK281.out 4).trans rfl; have hcz37_5 : w35.cell? ⟨gb281, 5, none⟩ = some (.slice Ao34 x282005_1.length co34) := (blk_cell BK281.out 5).trans rfl; have hcz37_6 : w35.cell? ⟨gb281, 6, none⟩ = some (u282006) := (blk_cell BK281.out 6).trans rfl; have hcz37_7 : w35.cell? ⟨gb281, 7, none⟩ = some (.int .i64 x282007_1) := (blk_cell BK281.out 7).trans rfl; have hcz37_8 : w35.cell? ⟨gb281, 8, none⟩ = some (.bool x282008_1) := (blk_cell BK281.out 8).trans rfl; have hfz37_0 := blk_frozen BK281.out 0; have hfz37_1 := blk_frozen BK281.out 1; have hfz37_2 := blk_frozen BK281.out 2; have hfz37_3 := blk_frozen BK281.out 3; have hfz37_4 := blk_frozen BK281.out 4; have hfz37_5 := blk_frozen BK281.out 5; have hfz37_6 := blk_frozen BK281.out 6; have hfz37_7 := blk_frozen BK281.out 7; have hfz37_8 := blk_frozen BK281.out 8) | ((with_reducible refine gate_callee (f := 103) rfl ?_); refine goesL_ (some 42) rfl rfl Try.func103 (by kernel_rfl) rfl #[.int .i64 t275, .int .i64 (wrap64 (t277 + (x282005_1.length : Int))), .string a0, .int .i64 x282007_1] rfl (by (try simp only [List.map_toArray, List.map_cons, List.map_nil]); first | done | rfl | (simp only [List.length_drop, List.length_take]; rfl)) ?_; (with_reducible refine (impl_ReadFrame.calls k1 t275 (wrap64 (t277 + (x282005_1.length : Int))) a0 x282007_1 t283 t284 true _ A25.out).mono ?_); rintro e w38 ⟨rfl, hb⟩; refine ⟨_, rfl, ?_⟩; have n0_ := Aside0.mk (Kd.R_below (by (with_reducible repeat (first | apply Kd.R_alloc | apply Kd.R_drewN | apply Kd.R_drew)); exact HO_282005.out) hb); have n1_ := Aside0.mk (Kd.R_below (by (with_reducible repeat (first | apply Kd.R_alloc | apply Kd.R_drewN | apply Kd.R_drew)); exact HO_282006.out) hb); have n2_ := Aside0.mk (blk_below (g := gb274) (o := .cells #[.bool x275000_1, .int .i64 x275001_1, .int .i64 x275002_1, .int .i64 x275003_1, .int .i64 x275004_1, .slice none 0 0, .slice none 0 0, .int .i64 x275007_1, .bool x275008_1] 47 (0, 0)) (by (with_reducible repeat (first | refine blk_drewN ?_ _ | refine blk_drew ?_ | refine blk_alloc ?_ _)); exact BK274.out) hb); have n3_ := Aside0.mk (blk_below (g := gb280) (o := .cells #[.int .i64 t275, .int .i64 t276, .int .i64 t277, .int .i64 t278] 27 (0, 0)) (by (with_reducible repeat (first | refine blk_drewN ?_ _ | refine blk_drew ?_ | refine blk_alloc ?_ _)); exact BK280.out) hb); have n4_ := Aside0.mk (blk_below (g := gb281) (o := .cells #[.bool true, .int .i64 t275, .int .i64 t276, .int .i64 t277, .int .i64 t278, .slice Ao34 x282005_1.length co34, u282006, .int .i64 x282007_1, .bool x282008_1] 47 (0, 0)) (by (with_reducible repeat (first | refine blk_drewN ?_ _ | refine blk_drew ?_ | refine blk_alloc ?_ _)); exact BK281.out) hb); have n5_ := Aside0.mk (below_step (by repeat (first | (with_reducible first | exact HB.out | apply below_alloc | apply pw_below_drewN | apply below_drew1 | refine below_set ?_ GE274.out | refine below_set ?_ GE280.out | refine below_set ?_ GE281.out) | exact HB.out)) hb); clear HO_282005; clear HO_282006; clear BK274; clear BK280; clear BK281; clear HB; have HO_282005 := n0_; have HO_282006 := n1_; have BK274 := n2_; have BK280 := n3_; have BK281 := n4_; have HB := n5_; clear n0_ n1_ n2_ n3_ n4_ n5_; (try clear hb); (try clear hb2); (try clear hk); (try clear hi); have hcz39_0 : w38.cell? ⟨gb281, 0, none⟩ = some (.bool true) := (blk_cell BK281.out 0).trans rfl; have hcz39_1 : w38.cell? ⟨gb281, 1, none⟩ = some (.int .i64 t275) := (blk_cell BK281.out 1).trans rfl; have hcz39_2 : w38.cell? ⟨gb281, 2, none⟩ = some (.int .i64 t276) := (blk_cell BK281.out 2).trans rfl; have hcz39_3 : w38.cell? ⟨gb281, 3, none⟩ = some (.int .i64 t277) := (blk_cell BK281.out 3).trans rfl; have hcz39_4 : w38.cell? ⟨gb281, 4, none⟩ = some (.int .i64 t278) := (blk_cell BK281.out 4).trans rfl; have hcz39_5 : w38.cell? ⟨gb281, 5, none⟩ = some (.slice Ao34 x282005_1.length co34) := (blk_cell BK281.out 5).trans rfl; have hcz39_6 : w38.cell? ⟨gb281, 6, none⟩ = some (u282006) := (blk_cell BK281.out 6).trans rfl; have hcz39_7 : w38.cell? ⟨gb281, 7, none⟩ = some (.int .i64 x282007_1) := (blk_cell BK281.out 7).trans rfl; have hcz39_8 : w38.cell? ⟨gb281, 8, none⟩ = some (.bool x282008_1) := (blk_cell BK281.out 8).trans rfl; have hfz39_0 := blk_frozen BK281.out 0; have hfz39_1 := blk_frozen BK281.out 1; have hfz39_2 := blk_frozen BK281.out 2; have hfz39_3 := blk_frozen BK281.out 3; have hfz39_4 := blk_frozen BK281.out 4; have hfz39_5 := blk_frozen BK281.out 5; have hfz39_6 := blk_frozen BK281.out 6; have hfz39_7 := blk_frozen BK281.out 7; have hfz39_8 := blk_frozen BK281.out 8) | ((with_reducible refine gate_builtin (b := .append) (xs := #[.tmp 50, .tmp 52]) rfl ?_); at_builtin; refine Kd.R_append Kd.string (w0 := w) w.heap.size rfl (.tmp 50) (.tmp 52) 24 9 (.string ⟨#[]⟩) 16 rfl Try.underlying24 info9 rfl (by decide) (by omega) (.slice Ao34 x282005_1.length co34) x282005_1 t283 [.string t283] (fun _ => True) (fun _ => False) rfl rfl ?aP (fun _ hk => hk.elim) ?aF ?aO ?aB ?aS ?aL ?_; (case aP => exact rfl); (case aB => exact (by repeat (first | (with_reducible first | exact HB.out | apply below_alloc | apply pw_below_drewN | apply below_drew1 | refine below_set ?_ GE274.out | refine below_set ?_ GE280.out | refine below_set ?_ GE281.out) | exact HB.out))); (case aF => exact (fun _ _ => trivial)); (case aO => exact (by (with_reducible repeat (first | apply Kd.R_alloc | apply Kd.R_drewN | apply Kd.R_drew)); exact HO_282005.out)); (case aS => exact (below_size (by repeat (first | (with_reducible first | exact HB.out | apply below_alloc | apply pw_below_drewN | apply below_drew1 | refine below_set ?_ GE274.out | refine below_set ?_ GE280.out | refine below_set ?_ GE281.out) | exact HB.out)))); (case aL => have := LMc27.out; omega); intro v287 w40 ho hb hg hat; rw [← Ny286.out] at ho; have n0_ := Aside0.mk (Kd.R_over' (by (with_reducible repeat (first | apply Kd.R_alloc | apply Kd.R_drewN | apply Kd.R_drew)); exact HO_282006.out) (Kd.R_typed (by (with_reducible repeat (first | apply Kd.R_alloc | apply Kd.R_drewN | apply Kd.R_drew)); exact HO_282005.out)) (by decide) hg); have n1_ := Aside0.mk (blk_grown (g := gb274) (o := .cells #[.bool x275000_1, .int .i64 x275001_1, .int .i64 x275002_1, .int .i64 x275003_1, .int .i64 x275004_1, .slice none 0 0, .slice none 0 0, .int .i64 x275007_1, .bool x275008_1] 47 (0, 0)) (by (with_reducible repeat (first | refine blk_drewN ?_ _ | refine blk_drew ?_ | refine blk_alloc ?_ _)); exact BK274.out) hg (Kd.R_ne HO_282005.out BK274.out (by decide))); have n2_ := Aside0.mk (blk_grown (g := gb280) (o := .cells #[.int .i64 t275, .int .i64 t276, .int .i64 t277, .int .i64 t278] 27 (0, 0)) (by (with_reducible repeat (first | refine blk_drewN ?_ _ | refine blk_drew ?_ | refine blk_alloc ?_ _)); exact BK280.out) hg (Kd.R_ne HO_282005.out BK280.out (by decide))); have n3_ := Aside0.mk (blk_grown (g := gb281) (o := .cells #[.bool true, .int .i64 t275, .int .i64 t276, .int .i64 t277, .int .i64 t278, .slice Ao34 x282005_1.length co34, u282006, .int .i64 x282007_1, .bool x282008_1] 47 (0, 0)) (by (with_reducible repeat (first | refine blk_drewN ?_ _ | refine blk_drew ?_ | refine blk_alloc ?_ _)); exact BK281.out) hg (Kd.R_ne HO_282005.out BK281.out (by decide))); have n4_ := Aside0.mk (hb); have n5_ := Aside0.mk (ho); clear HO_282006; clear BK274; clear BK280; clear BK281; clear HB; clear HO_282005; have HO_282006 := n0_; have BK274 := n1_; have BK280 := n2_; have BK281 := n3_; have HB := n4_; have HO288 := n5_; clear n0_ n1_ n2_ n3_ n4_ n5_; clear ho hb hg hat; obtain ⟨Ao41, co41, eo41⟩ := Kd.R_slice HO288.out; subst eo41; have hcz42_0 : w40.cell? ⟨gb281, 0, none⟩ = some (.bool true) := (blk_cell BK281.out 0).trans rfl; have hcz42_1 : w40.cell? ⟨gb281, 1, none⟩ = some (.int .i64 t275) := (blk_cell BK281.out 1).trans rfl; have hcz42_2 : w40.cell? ⟨gb281, 2, none⟩ = some (.int .i64 t276) := (blk_cell BK281.out 2).trans rfl; have hcz42_3 : w40.cell? ⟨gb281, 3, none⟩ = some (.int .i64 t277) := (blk_cell BK281.out 3).trans rfl; have hcz42_4 : w40.cell? ⟨gb281, 4, none⟩ = some (.int .i64 t278) := (blk_cell BK281.out 4).trans rfl; have hcz42_5 : w40.cell? ⟨gb281, 5, none⟩ = some (.slice Ao34 x282005_1.length co34) := (blk_cell BK281.out 5).trans rfl; have hcz42_6 : w40.cell? ⟨gb281, 6, none⟩ = some (u282006) := (blk_cell BK281.out 6).trans rfl; have hcz42_7 : w40.cell? ⟨gb281, 7, none⟩ = some (.int .i64 x282007_1) := (blk_cell BK281.out 7).trans rfl; have hcz42_8 : w40.cell? ⟨gb281, 8, none⟩ = some (.bool x282008_1) := (blk_cell BK281.out 8).trans rfl; have hfz42_0 := blk_frozen BK281.out 0; have hfz42_1 := blk_frozen BK281.out 1; have hfz42_2 := blk_frozen BK281.out 2; have hfz42_3 := blk_frozen BK281.out 3; have hfz42_4 := blk_frozen BK281.out 4; have hfz42_5 := blk_frozen BK281.out 5; have hfz42_6 := blk_frozen BK281.out 6; have hfz42_7 := blk_frozen BK281.out 7; have hfz42_8 := blk_frozen BK281.out 8) | ((with_reducible refine gate_builtin (b := .append) (xs := #[.tmp 56, .tmp 59]) rfl ?_); at_builtin; refine Kd.R_append (Kd.int .i64) (w0 := w) w.heap.size rfl (.tmp 56) (.tmp 59) 41 3 (.int .i64 0) 8 rfl Try.underlying41 info3 rfl (by decide) (by omega) u282006 x282006_1 x282007_1 [.int .i64 x282007_1] (fun _ => True) (fun _ => False) rfl (by first | (go_simp; done) | (go_simp; rfl)) ?aP (fun _ hk => hk.elim) ?aF ?aO ?aB ?aS ?aL ?_; (case aP => exact rfl); (case aB => exact (by repeat (first | (with_reducible first | exact HB.out | apply below_alloc | apply pw_below_drewN | apply below_drew1 | refine below_set ?_ GE274.out | refine below_set ?_ GE280.out | refine below_set ?_ GE281.out) | exact HB.out))); (case aF => exact (fun _ _ => trivial)); (case aO => exact (by (with_reducible repeat (first | apply Kd.R_alloc | apply Kd.R_drewN | apply Kd.R_drew)); exact Kd.R_mono (Kd.R_far (p := ⟨gb281, 5, none⟩) (Kd.R_types HO_282006.out BK281.out (by decide)) (fun _ hk => hk.2) (.slice Ao41 y286.length co41)) (fun _ hk => trivial))); (case aS => exact (below_size (by repeat (first | (with_reducible first | exact HB.out | apply below_alloc | apply pw_below_drewN | apply below_drew1 | refine below_set ?_ GE274.out | refine below_set ?_ GE280.out | refine below_set ?_ GE281.out) | exact HB.out)))); (case aL => have := LMc28.out; omega); intro v290 w43 ho hb hg hat; rw [← Ny289.out] at ho; have n0_ := Aside0.mk (blk_grown (g := gb274) (o := .cells #[.bool x275000_1, .int .i64 x275001_1, .int .i64 x275002_1, .int .i64 x275003_1, .int .i64 x275004_1, .slice none 0 0, .slice none 0 0, .int .i64 x275007_1, .bool x275008_1] 47 (0, 0)) (by (with_reducible repeat (first | refine blk_drewN ?_ _ | refine blk_drew ?_ | refine blk_alloc ?_ _)); refine blk_far ?_ NB274_281.out _; (with_reducible repeat (first | refine blk_drewN ?_ _ | refine blk_drew ?_ | refine blk_alloc ?_ _)); exact BK274.out) hg (Kd.R_ne HO_282006.out BK274.out (by decide))); have n1_ := Aside0.mk (blk_grown (g := gb280) (o := .cells #[.int .i64 t275, .int .i64 t276, .int .i64 t277, .int .i64 t278] 27 (0, 0)) (by (with_reducible repeat (first | refine blk_drewN ?_ _ | refine blk_drew ?_ | refine blk_alloc ?_ _)); refine blk_far ?_ NB280_281.out _; (with_reducible repeat (first | refine blk_drewN ?_ _ | refine blk_drew ?_ | refine blk_alloc ?_ _)); exact BK280.out) hg (Kd.R_ne HO_282006.out BK280.out (by decide))); have n2_ := Aside0.mk (blk_grown (g := gb281) (o := .cells #[.bool true, .int .i64 t275, .int .i64 t276, .int .i64 t277, .int .i64 t278, .slice Ao41 y286.length co41, u282006, .int .i64 x282007_1, .bool x282008_1] 47 (0, 0)) (by (with_reducible repeat (first | refine blk_drewN ?_ _ | refine blk_drew ?_ | refine blk_alloc ?_ _)); refine blk_put (cs := #[.bool true, .int .i64 t275, .int .i64 t276, .int .i64 t277, .int .i64 t278, .slice Ao34 x282005_1.length co34, u282006, .int .i64 x282007_1, .bool x282008_1]) ?_ 5 _ rfl; (with_reducible repeat (first | refine blk_drewN ?_ _ | refine blk_drew ?_ | refine blk_alloc ?_ _)); exact BK281.out) hg (Kd.R_ne HO_282006.out BK281.out (by decide))); have n3_ := Aside0.mk (Kd.R_over' (by (with_reducible repeat (first | apply Kd.R_alloc | apply Kd.R_drewN | apply Kd.R_drew)); exact (Kd.R_mono (Kd.R_far (p := ⟨gb281, 5, none⟩) (Kd.R_types HO288.out BK281.out (by decide)) (fun _ hk => hk.2) (.slice Ao41 y286.length co41)) (fun _ h_ => h_.1))) (Kd.R_typed (by (with_reducible repeat (first | apply Kd.R_alloc | apply Kd.R_drewN | apply Kd.R_drew)); exact (Kd.R_mono (Kd.R_far (p := ⟨gb281, 5, none⟩) (Kd.R_types HO_282006.out BK281.out (by decide)) (fun _ hk => hk.2) (.slice Ao41 y286.length co41)) (fun _ h_ => h_.1)))) (by decide) hg); have n4_ := Aside0.mk (hb); have n5_ := Aside0.mk (ho); clear BK274; clear BK280; clear BK281; clear HO288; clear HB; clear HO_282006; have BK274 := n0_; have BK280 := n1_; have BK281 := n2_; have HO288 := n3_; have HB := n4_; have HO291 := n5_; clear n0_ n1_ n2_ n3_ n4_ n5_; clear ho hb hg hat; obtain ⟨Ao44, co44, eo44⟩ := Kd.R_slice HO291.out; subst eo44; have hcz45_0 : w43.cell? ⟨gb281, 0, none⟩ = some (.bool true) := (blk_cell BK281.out 0).trans rfl; have hcz45_1 : w43.cell? ⟨gb281, 1, none⟩ = some (.int .i64 t275) := (blk_cell BK281.out 1).trans rfl; have hcz45_2 : w43.cell? ⟨gb281, 2, none⟩ = some (.int .i64 t276) := (blk_cell BK281.out 2).trans rfl; have hcz45_3 : w43.cell? ⟨gb281, 3, none⟩ = some (.int .i64 t277) := (blk_cell BK281.out 3).trans rfl; have hcz45_4 : w43.cell? ⟨gb281, 4, none⟩ = some (.int .i64 t278) := (blk_cell BK281.out 4).trans rfl; have hcz45_5 : w43.cell? ⟨gb281, 5, none⟩ = some (.slice Ao41 y286.length co41) := (blk_cell BK281.out 5).trans rfl; have hcz45_6 : w43.cell? ⟨gb281, 6, none⟩ = some (u282006) := (blk_cell BK281.out 6).trans rfl; have hcz45_7 : w43.cell? ⟨gb281, 7, none⟩ = some (.int .i64 x282007_1) := (blk_cell BK281.out 7).trans rfl; have hcz45_8 : w43.cell? ⟨gb281, 8, none⟩ = some (.bool x282008_1) := (blk_cell BK281.out 8).trans rfl; have hfz45_0 := blk_frozen BK281.out 0; have hfz45_1 := blk_frozen BK281.out 1; have hfz45_2 := blk_frozen BK281.out 2; have hfz45_3 := blk_frozen BK281.out 3; have hfz45_4 := blk_frozen BK281.out 4; have hfz45_5 := blk_frozen BK281.out 5; have hfz45_6 := blk_frozen BK281.out 6; have hfz45_7 := blk_frozen BK281.out 7; have hfz45_8 := blk_frozen BK281.out 8))
                go_roundg k1
                case measure => have := HK1.out; omega
                case rel => exact ⟨(x275000_1), (x275001_1), (x275002_1), (x275003_1), (x275004_1), (x275007_1), (x275008_1), (y286), (y289), (t284), (x282008_1), (.slice Ao41 y286.length co41), (.slice Ao44 y289.length co44), H', ⟨by have := HK1.out; omega⟩, ⟨by (with_reducible repeat (first | apply Kd.R_alloc | apply Kd.R_drewN | apply Kd.R_drew)); exact Kd.R_mono (Kd.R_far (p := ⟨gb281, 7, none⟩) (Kd.R_far (p := ⟨gb281, 6, none⟩) (Kd.R_types HO288.out BK281.out (by decide)) (fun _ hk => hk.2) (.slice Ao44 y289.length co44)) (fun _ hk => hk.2) (.int .i64 t284)) (fun _ hk => trivial)⟩, ⟨by (with_reducible repeat (first | apply Kd.R_alloc | apply Kd.R_drewN | apply Kd.R_drew)); exact Kd.R_mono (Kd.R_far (p := ⟨gb281, 7, none⟩) (Kd.R_far (p := ⟨gb281, 6, none⟩) (Kd.R_types HO291.out BK281.out (by decide)) (fun _ hk => hk.2) (.slice Ao44 y289.length co44)) (fun _ hk => hk.2) (.int .i64 t284)) (fun _ hk => trivial)⟩, ⟨by (with_reducible repeat (first | refine blk_drewN ?_ _ | refine blk_drew ?_ | refine blk_alloc ?_ _)); refine blk_far ?_ NB274_281.out _; (with_reducible repeat (first | refine blk_drewN ?_ _ | refine blk_drew ?_ | refine blk_alloc ?_ _)); refine blk_far ?_ NB274_281.out _; (with_reducible repeat (first | refine blk_drewN ?_ _ | refine blk_drew ?_ | refine blk_alloc ?_ _)); exact BK274.out⟩, ⟨by (with_reducible repeat (first | refine blk_drewN ?_ _ | refine blk_drew ?_ | refine blk_alloc ?_ _)); refine blk_far ?_ NB280_281.out _; (with_reducible repeat (first | refine blk_drewN ?_ _ | refine blk_drew ?_ | refine blk_alloc ?_ _)); refine blk_far ?_ NB280_281.out _; (with_reducible repeat (first | refine blk_drewN ?_ _ | refine blk_drew ?_ | refine blk_alloc ?_ _)); exact BK280.out⟩, ⟨by (with_reducible repeat (first | refine blk_drewN ?_ _ | refine blk_drew ?_ | refine blk_alloc ?_ _)); refine blk_put (cs := #[.bool true, .int .i64 t275, .int .i64 t276, .int .i64 t277, .int .i64 t278, .slice Ao41 y286.length co41, .slice Ao44 y289.length co44, .int .i64 x282007_1, .bool x282008_1]) ?_ 7 _ rfl; (with_reducible repeat (first | refine blk_drewN ?_ _ | refine blk_drew ?_ | refine blk_alloc ?_ _)); refine blk_put (cs := #[.bool true, .int .i64 t275, .int .i64 t276, .int .i64 t277, .int .i64 t278, .slice Ao41 y286.length co41, u282006, .int .i64 x282007_1, .bool x282008_1]) ?_ 6 _ rfl; (with_reducible repeat (first | refine blk_drewN ?_ _ | refine blk_drew ?_ | refine blk_alloc ?_ _)); exact BK281.out⟩, ⟨by repeat (first | (with_reducible first | exact HB.out | apply below_alloc | apply pw_below_drewN | apply below_drew1 | refine below_set ?_ GE274.out | refine below_set ?_ GE280.out | refine below_set ?_ GE281.out) | exact HB.out)⟩⟩
              · rw [if_neg c28] at H
                exact absurd H (by simp)
            · rw [if_neg c27] at H
              exact absurd H (by simp)
          · replace c26 := Bool.eq_false_iff.mpr c26
            subst c26
            have H1 : (some (true, t275, t276, t277, t278, x282005_1, x282006_1, x282007_1, x282008_1)) = some (r1, r2, r3, r4, r5, r6, r7, r8, r9) := by rw [if_neg (show ¬ (false = true) by decide)] at H; exact H
            clear H
            have H := H1
            clear H1
            simp only [Option.some.injEq, Prod.mk.injEq] at H
            obtain ⟨rfl, rfl, rfl, rfl, rfl, rfl, rfl, rfl, rfl⟩ := H
            have hnb46 := NB280_274.out
            have hnc46 := NB274_280.out
            have hnb47 := NB280_281.out
            have hnc47 := NB281_280.out
            have hcz48_0 : wr.cell? ⟨gb280, 0, none⟩ = some (.int .i64 t275) := (blk_cell BK280.out 0).trans rfl
            have hcz48_1 : wr.cell? ⟨gb280, 1, none⟩ = some (.int .i64 t276) := (blk_cell BK280.out 1).trans rfl
            have hcz48_2 : wr.cell? ⟨gb280, 2, none⟩ = some (.int .i64 t277) := (blk_cell BK280.out 2).trans rfl
            have hcz48_3 : wr.cell? ⟨gb280, 3, none⟩ = some (.int .i64 t278) := (blk_cell BK280.out 3).trans rfl
            have hfz48_0 := blk_frozen BK280.out 0
            have hfz48_1 := blk_frozen BK280.out 1
            have hfz48_2 := blk_frozen BK280.out 2
            have hfz48_3 := blk_frozen BK280.out 3
            have hnb49 := NB281_274.out
            have hnc49 := NB274_281.out
            have hcz50_0 : wr.cell? ⟨gb281, 0, none⟩ = some (.bool true) := (blk_cell BK281.out 0).trans rfl
            have hcz50_1 : wr.cell? ⟨gb281, 1, none⟩ = some (.int .i64 t275) := (blk_cell BK281.out 1).trans rfl
            have hcz50_2 : wr.cell? ⟨gb281, 2, none⟩ = some (.int .i64 t276) := (blk_cell BK281.out 2).trans rfl
            have hcz50_3 : wr.cell? ⟨gb281, 3, none⟩ = some (.int .i64 t277) := (blk_cell BK281.out 3).trans rfl
            have hcz50_4 : wr.cell? ⟨gb281, 4, none⟩ = some (.int .i64 t278) := (blk_cell BK281.out 4).trans rfl
            have hcz50_5 : wr.cell? ⟨gb281, 5, none⟩ = some (u282005) := (blk_cell BK281.out 5).trans rfl
            have hcz50_6 : wr.cell? ⟨gb281, 6, none⟩ = some (u282006) := (blk_cell BK281.out 6).trans rfl
            have hcz50_7 : wr.cell? ⟨gb281, 7, none⟩ = some (.int .i64 x282007_1) := (blk_cell BK281.out 7).trans rfl
            have hcz50_8 : wr.cell? ⟨gb281, 8, none⟩ = some (.bool x282008_1) := (blk_cell BK281.out 8).trans rfl
            have hfz50_0 := blk_frozen BK281.out 0
            have hfz50_1 := blk_frozen BK281.out 1
            have hfz50_2 := blk_frozen BK281.out 2
            have hfz50_3 := blk_frozen BK281.out 3
            have hfz50_4 := blk_frozen BK281.out 4
            have hfz50_5 := blk_frozen BK281.out 5
            have hfz50_6 := blk_frozen BK281.out 6
            have hfz50_7 := blk_frozen BK281.out 7
            have hfz50_8 := blk_frozen BK281.out 8
            obtain ⟨Ao51, co51, eo51⟩ := Kd.R_slice HO_282005.out
            subst eo51
            go_wp2_with (first | ((with_reducible refine gate_callee (f := 102) rfl ?_); refine goesL_ (some 32) rfl rfl Try.func102 (by kernel_rfl) rfl #[.int .i64 t275, .int .i64 (wrap64 (t277 + (x282005_1.length : Int))), .string a0, .int .i64 x282007_1] rfl (by (try simp only [List.map_toArray, List.map_cons, List.map_nil]); first | done | rfl | (simp only [List.length_drop, List.length_take]; rfl)) ?_; (with_reducible refine (impl_MarkAt.calls k1 t275 (wrap64 (t277 + (x282005_1.length : Int))) a0 x282007_1 false _ A13.out).mono ?_); rintro e w52 ⟨rfl, hb⟩; refine ⟨_, rfl, ?_⟩; have n0_ := Aside0.mk (Kd.R_below (by (with_reducible repeat (first | apply Kd.R_alloc | apply Kd.R_drewN | apply Kd.R_drew)); exact HO_282005.out) hb); have n1_ := Aside0.mk (Kd.R_below (by (with_reducible repeat (first | apply Kd.R_alloc | apply Kd.R_drewN | apply Kd.R_drew)); exact HO_282006.out) hb); have n2_ := Aside0.mk (blk_below (g := gb274) (o := .cells #[.bool x275000_1, .int .i64 x275001_1, .int .i64 x275002_1, .int .i64 x275003_1, .int .i64 x275004_1, .slice none 0 0, .slice none 0 0, .int .i64 x275007_1, .bool x275008_1] 47 (0, 0)) (by (with_reducible repeat (first | refine blk_drewN ?_ _ | refine blk_drew ?_ | refine blk_alloc ?_ _)); exact BK274.out) hb); have n3_ := Aside0.mk (blk_below (g := gb280) (o := .cells #[.int .i64 t275, .int .i64 t276, .int .i64 t277, .int .i64 t278] 27 (0, 0)) (by (with_reducible repeat (first | refine blk_drewN ?_ _ | refine blk_drew ?_ | refine blk_alloc ?_ _)); exact BK280.out) hb); have n4_ := Aside0.mk (blk_below (g := gb281) (o := .cells #[.bool true, .int .i64 t275, .int .i64 t276, .int .i64 t277, .int .i64 t278, .slice Ao51 x282005_1.length co51, u282006, .int .i64 x282007_1, .bool x282008_1] 47 (0, 0)) (by (with_reducible repeat (first | refine blk_drewN ?_ _ | refine blk_drew ?_ | refine blk_alloc ?_ _)); exact BK281.out) hb); have n5_ := Aside0.mk (below_step (by repeat (first | (with_reducible first | exact HB.out | apply below_alloc | apply pw_below_drewN | apply below_drew1 | refine below_set ?_ GE274.out | refine below_set ?_ GE280.out | refine below_set ?_ GE281.out) | exact HB.out)) hb); clear HO_282005; clear HO_282006; clear BK274; clear BK280; clear BK281; clear HB; have HO_282005 := n0_; have HO_282006 := n1_; have BK274 := n2_; have BK280 := n3_; have BK281 := n4_; have HB := n5_; clear n0_ n1_ n2_ n3_ n4_ n5_; (try clear hb); (try clear hb2); (try clear hk); (try clear hi); have hcz53_0 : w52.cell? ⟨gb280, 0, none⟩ = some (.int .i64 t275) := (blk_cell BK280.out 0).trans rfl; have hcz53_1 : w52.cell? ⟨gb280, 1, none⟩ = some (.int .i64 t276) := (blk_cell BK280.out 1).trans rfl; have hcz53_2 : w52.cell? ⟨gb280, 2, none⟩ = some (.int .i64 t277) := (blk_cell BK280.out 2).trans rfl; have hcz53_3 : w52.cell? ⟨gb280, 3, none⟩ = some (.int .i64 t278) := (blk_cell BK280.out 3).trans rfl; have hfz53_0 := blk_frozen BK280.out 0; have hfz53_1 := blk_frozen BK280.out 1; have hfz53_2 := blk_frozen BK280.out 2; have hfz53_3 := blk_frozen BK280.out 3; have hcz54_0 : w52.cell? ⟨gb281, 0, none⟩ = some (.bool true) := (blk_cell BK281.out 0).trans rfl; have hcz54_1 : w52.cell? ⟨gb281, 1, none⟩ = some (.int .i64 t275) := (blk_cell BK281.out 1).trans rfl; have hcz54_2 : w52.cell? ⟨gb281, 2, none⟩ = some (.int .i64 t276) := (blk_cell BK281.out 2).trans rfl; have hcz54_3 : w52.cell? ⟨gb281, 3, none⟩ = some (.int .i64 t277) := (blk_cell BK281.out 3).trans rfl; have hcz54_4 : w52.cell? ⟨gb281, 4, none⟩ = some (.int .i64 t278) := (blk_cell BK281.out 4).trans rfl; have hcz54_5 : w52.cell? ⟨gb281, 5, none⟩ = some (.slice Ao51 x282005_1.length co51) := (blk_cell BK281.out 5).trans rfl; have hcz54_6 : w52.cell? ⟨gb281, 6, none⟩ = some (u282006) := (blk_cell BK281.out 6).trans rfl; have hcz54_7 : w52.cell? ⟨gb281, 7, none⟩ = some (.int .i64 x282007_1) := (blk_cell BK281.out 7).trans rfl; have hcz54_8 : w52.cell? ⟨gb281, 8, none⟩ = some (.bool x282008_1) := (blk_cell BK281.out 8).trans rfl; have hfz54_0 := blk_frozen BK281.out 0; have hfz54_1 := blk_frozen BK281.out 1; have hfz54_2 := blk_frozen BK281.out 2; have hfz54_3 := blk_frozen BK281.out 3; have hfz54_4 := blk_frozen BK281.out 4; have hfz54_5 := blk_frozen BK281.out 5; have hfz54_6 := blk_frozen BK281.out 6; have hfz54_7 := blk_frozen BK281.out 7; have hfz54_8 := blk_frozen BK281.out 8) | ((with_reducible refine gate_callee (f := 103) rfl ?_); refine goesL_ (some 42) rfl rfl Try.func103 (by kernel_rfl) rfl #[.int .i64 t275, .int .i64 (wrap64 (t277 + (x282005_1.length : Int))), .string a0, .int .i64 x282007_1] rfl (by (try simp only [List.map_toArray, List.map_cons, List.map_nil]); first | done | rfl | (simp only [List.length_drop, List.length_take]; rfl)) ?_; (with_reducible refine (impl_ReadFrame.calls k1 t275 (wrap64 (t277 + (x282005_1.length : Int))) a0 x282007_1 t283 t284 false _ A25.out).mono ?_); rintro e w55 ⟨rfl, hb⟩; refine ⟨_, rfl, ?_⟩; have n0_ := Aside0.mk (Kd.R_below (by (with_reducible repeat (first | apply Kd.R_alloc | apply Kd.R_drewN | apply Kd.R_drew)); exact HO_282005.out) hb); have n1_ := Aside0.mk (Kd.R_below (by (with_reducible repeat (first | apply Kd.R_alloc | apply Kd.R_drewN | apply Kd.R_drew)); exact HO_282006.out) hb); have n2_ := Aside0.mk (blk_below (g := gb274) (o := .cells #[.bool x275000_1, .int .i64 x275001_1, .int .i64 x275002_1, .int .i64 x275003_1, .int .i64 x275004_1, .slice none 0 0, .slice none 0 0, .int .i64 x275007_1, .bool x275008_1] 47 (0, 0)) (by (with_reducible repeat (first | refine blk_drewN ?_ _ | refine blk_drew ?_ | refine blk_alloc ?_ _)); exact BK274.out) hb); have n3_ := Aside0.mk (blk_below (g := gb280) (o := .cells #[.int .i64 t275, .int .i64 t276, .int .i64 t277, .int .i64 t278] 27 (0, 0)) (by (with_reducible repeat (first | refine blk_drewN ?_ _ | refine blk_drew ?_ | refine blk_alloc ?_ _)); exact BK280.out) hb); have n4_ := Aside0.mk (blk_below (g := gb281) (o := .cells #[.bool true, .int .i64 t275, .int .i64 t276, .int .i64 t277, .int .i64 t278, .slice Ao51 x282005_1.length co51, u282006, .int .i64 x282007_1, .bool x282008_1] 47 (0, 0)) (by (with_reducible repeat (first | refine blk_drewN ?_ _ | refine blk_drew ?_ | refine blk_alloc ?_ _)); exact BK281.out) hb); have n5_ := Aside0.mk (below_step (by repeat (first | (with_reducible first | exact HB.out | apply below_alloc | apply pw_below_drewN | apply below_drew1 | refine below_set ?_ GE274.out | refine below_set ?_ GE280.out | refine below_set ?_ GE281.out) | exact HB.out)) hb); clear HO_282005; clear HO_282006; clear BK274; clear BK280; clear BK281; clear HB; have HO_282005 := n0_; have HO_282006 := n1_; have BK274 := n2_; have BK280 := n3_; have BK281 := n4_; have HB := n5_; clear n0_ n1_ n2_ n3_ n4_ n5_; (try clear hb); (try clear hb2); (try clear hk); (try clear hi); have hcz56_0 : w55.cell? ⟨gb281, 0, none⟩ = some (.bool true) := (blk_cell BK281.out 0).trans rfl; have hcz56_1 : w55.cell? ⟨gb281, 1, none⟩ = some (.int .i64 t275) := (blk_cell BK281.out 1).trans rfl; have hcz56_2 : w55.cell? ⟨gb281, 2, none⟩ = some (.int .i64 t276) := (blk_cell BK281.out 2).trans rfl; have hcz56_3 : w55.cell? ⟨gb281, 3, none⟩ = some (.int .i64 t277) := (blk_cell BK281.out 3).trans rfl; have hcz56_4 : w55.cell? ⟨gb281, 4, none⟩ = some (.int .i64 t278) := (blk_cell BK281.out 4).trans rfl; have hcz56_5 : w55.cell? ⟨gb281, 5, none⟩ = some (.slice Ao51 x282005_1.length co51) := (blk_cell BK281.out 5).trans rfl; have hcz56_6 : w55.cell? ⟨gb281, 6, none⟩ = some (u282006) := (blk_cell BK281.out 6).trans rfl; have hcz56_7 : w55.cell? ⟨gb281, 7, none⟩ = some (.int .i64 x282007_1) := (blk_cell BK281.out 7).trans rfl; have hcz56_8 : w55.cell? ⟨gb281, 8, none⟩ = some (.bool x282008_1) := (blk_cell BK281.out 8).trans rfl; have hfz56_0 := blk_frozen BK281.out 0; have hfz56_1 := blk_frozen BK281.out 1; have hfz56_2 := blk_frozen BK281.out 2; have hfz56_3 := blk_frozen BK281.out 3; have hfz56_4 := blk_frozen BK281.out 4; have hfz56_5 := blk_frozen BK281.out 5; have hfz56_6 := blk_frozen BK281.out 6; have hfz56_7 := blk_frozen BK281.out 7; have hfz56_8 := blk_frozen BK281.out 8; have hcz57_0 : w55.cell? ⟨gb274, 0, none⟩ = some (.bool x275000_1) := (blk_cell BK274.out 0).trans rfl; have hcz57_1 : w55.cell? ⟨gb274, 1, none⟩ = some (.int .i64 x275001_1) := (blk_cell BK274.out 1).trans rfl; have hcz57_2 : w55.cell? ⟨gb274, 2, none⟩ = some (.int .i64 x275002_1) := (blk_cell BK274.out 2).trans rfl; have hcz57_3 : w55.cell? ⟨gb274, 3, none⟩ = some (.int .i64 x275003_1) := (blk_cell BK274.out 3).trans rfl; have hcz57_4 : w55.cell? ⟨gb274, 4, none⟩ = some (.int .i64 x275004_1) := (blk_cell BK274.out 4).trans rfl; have hcz57_5 : w55.cell? ⟨gb274, 5, none⟩ = some (.slice none 0 0) := (blk_cell BK274.out 5).trans rfl; have hcz57_6 : w55.cell? ⟨gb274, 6, none⟩ = some (.slice none 0 0) := (blk_cell BK274.out 6).trans rfl; have hcz57_7 : w55.cell? ⟨gb274, 7, none⟩ = some (.int .i64 x275007_1) := (blk_cell BK274.out 7).trans rfl; have hcz57_8 : w55.cell? ⟨gb274, 8, none⟩ = some (.bool x275008_1) := (blk_cell BK274.out 8).trans rfl; have hfz57_0 := blk_frozen BK274.out 0; have hfz57_1 := blk_frozen BK274.out 1; have hfz57_2 := blk_frozen BK274.out 2; have hfz57_3 := blk_frozen BK274.out 3; have hfz57_4 := blk_frozen BK274.out 4; have hfz57_5 := blk_frozen BK274.out 5; have hfz57_6 := blk_frozen BK274.out 6; have hfz57_7 := blk_frozen BK274.out 7; have hfz57_8 := blk_frozen BK274.out 8; obtain ⟨Ao58, co58, eo58⟩ := Kd.R_slice HO_282006.out; subst eo58))
            refine bodyPost_ret (results_cell_row rfl _ _ gb274 47 #[.bool true, .int .i64 t275, .int .i64 t276, .int .i64 t277, .int .i64 t278, .slice Ao51 x282005_1.length co51, .slice Ao58 x282006_1.length co58, .int .i64 x282007_1, .bool x282008_1] (0, 0) _ rfl (by (with_reducible repeat (first | refine blk_drewN ?_ _ | refine blk_drew ?_ | refine blk_alloc ?_ _)); refine blk_put (cs := #[.bool true, .int .i64 t275, .int .i64 t276, .int .i64 t277, .int .i64 t278, .slice Ao51 x282005_1.length co51, .slice Ao58 x282006_1.length co58, .int .i64 x282007_1, .bool x275008_1]) ?_ 8 _ rfl; (with_reducible repeat (first | refine blk_drewN ?_ _ | refine blk_drew ?_ | refine blk_alloc ?_ _)); refine blk_put (cs := #[.bool true, .int .i64 t275, .int .i64 t276, .int .i64 t277, .int .i64 t278, .slice Ao51 x282005_1.length co51, .slice Ao58 x282006_1.length co58, .int .i64 x275007_1, .bool x275008_1]) ?_ 7 _ rfl; (with_reducible repeat (first | refine blk_drewN ?_ _ | refine blk_drew ?_ | refine blk_alloc ?_ _)); refine blk_put (cs := #[.bool true, .int .i64 t275, .int .i64 t276, .int .i64 t277, .int .i64 t278, .slice Ao51 x282005_1.length co51, .slice none 0 0, .int .i64 x275007_1, .bool x275008_1]) ?_ 6 _ rfl; (with_reducible repeat (first | refine blk_drewN ?_ _ | refine blk_drew ?_ | refine blk_alloc ?_ _)); refine blk_put (cs := #[.bool true, .int .i64 t275, .int .i64 t276, .int .i64 t277, .int .i64 t278, .slice none 0 0, .slice none 0 0, .int .i64 x275007_1, .bool x275008_1]) ?_ 5 _ rfl; (with_reducible repeat (first | refine blk_drewN ?_ _ | refine blk_drew ?_ | refine blk_alloc ?_ _)); refine blk_put (cs := #[.bool true, .int .i64 t275, .int .i64 t276, .int .i64 t277, .int .i64 x275004_1, .slice none 0 0, .slice none 0 0, .int .i64 x275007_1, .bool x275008_1]) ?_ 4 _ rfl; (with_reducible repeat (first | refine blk_drewN ?_ _ | refine blk_drew ?_ | refine blk_alloc ?_ _)); refine blk_put (cs := #[.bool true, .int .i64 t275, .int .i64 t276, .int .i64 x275003_1, .int .i64 x275004_1, .slice none 0 0, .slice none 0 0, .int .i64 x275007_1, .bool x275008_1]) ?_ 3 _ rfl; (with_reducible repeat (first | refine blk_drewN ?_ _ | refine blk_drew ?_ | refine blk_alloc ?_ _)); refine blk_put (cs := #[.bool true, .int .i64 t275, .int .i64 x275002_1, .int .i64 x275003_1, .int .i64 x275004_1, .slice none 0 0, .slice none 0 0, .int .i64 x275007_1, .bool x275008_1]) ?_ 2 _ rfl; (with_reducible repeat (first | refine blk_drewN ?_ _ | refine blk_drew ?_ | refine blk_alloc ?_ _)); refine blk_put (cs := #[.bool true, .int .i64 x275001_1, .int .i64 x275002_1, .int .i64 x275003_1, .int .i64 x275004_1, .slice none 0 0, .slice none 0 0, .int .i64 x275007_1, .bool x275008_1]) ?_ 1 _ rfl; (with_reducible repeat (first | refine blk_drewN ?_ _ | refine blk_drew ?_ | refine blk_alloc ?_ _)); refine blk_put (cs := #[.bool x275000_1, .int .i64 x275001_1, .int .i64 x275002_1, .int .i64 x275003_1, .int .i64 x275004_1, .slice none 0 0, .slice none 0 0, .int .i64 x275007_1, .bool x275008_1]) ?_ 0 _ rfl; (with_reducible repeat (first | refine blk_drewN ?_ _ | refine blk_drew ?_ | refine blk_alloc ?_ _)); exact BK274.out) Try.underlying47 rfl (by kernel_rfl)) rfl ?_
            exact ⟨_, _, by first | rfl | (simp [errW_none, errW_some] <;> rfl) | (simp [*, errW_none, errW_some] <;> rfl), by (with_reducible repeat (first | apply Kd.R_alloc | apply Kd.R_drewN | apply Kd.R_drew)); exact Kd.R_mono (Kd.R_far (p := ⟨gb274, 8, none⟩) (Kd.R_far (p := ⟨gb274, 7, none⟩) (Kd.R_far (p := ⟨gb274, 6, none⟩) (Kd.R_far (p := ⟨gb274, 5, none⟩) (Kd.R_far (p := ⟨gb274, 4, none⟩) (Kd.R_far (p := ⟨gb274, 3, none⟩) (Kd.R_far (p := ⟨gb274, 2, none⟩) (Kd.R_far (p := ⟨gb274, 1, none⟩) (Kd.R_far (p := ⟨gb274, 0, none⟩) (Kd.R_types HO_282005.out BK274.out (by decide)) (fun _ hk => hk.2) (.bool true)) (fun _ hk => hk.2) (.int .i64 t275)) (fun _ hk => hk.2) (.int .i64 t276)) (fun _ hk => hk.2) (.int .i64 t277)) (fun _ hk => hk.2) (.int .i64 t278)) (fun _ hk => hk.2) (.slice Ao51 x282005_1.length co51)) (fun _ hk => hk.2) (.slice Ao58 x282006_1.length co58)) (fun _ hk => hk.2) (.int .i64 x282007_1)) (fun _ hk => hk.2) (.bool x282008_1)) (fun _ hk => trivial), by (with_reducible repeat (first | apply Kd.R_alloc | apply Kd.R_drewN | apply Kd.R_drew)); exact Kd.R_mono (Kd.R_far (p := ⟨gb274, 8, none⟩) (Kd.R_far (p := ⟨gb274, 7, none⟩) (Kd.R_far (p := ⟨gb274, 6, none⟩) (Kd.R_far (p := ⟨gb274, 5, none⟩) (Kd.R_far (p := ⟨gb274, 4, none⟩) (Kd.R_far (p := ⟨gb274, 3, none⟩) (Kd.R_far (p := ⟨gb274, 2, none⟩) (Kd.R_far (p := ⟨gb274, 1, none⟩) (Kd.R_far (p := ⟨gb274, 0, none⟩) (Kd.R_types HO_282006.out BK274.out (by decide)) (fun _ hk => hk.2) (.bool true)) (fun _ hk => hk.2) (.int .i64 t275)) (fun _ hk => hk.2) (.int .i64 t276)) (fun _ hk => hk.2) (.int .i64 t277)) (fun _ hk => hk.2) (.int .i64 t278)) (fun _ hk => hk.2) (.slice Ao51 x282005_1.length co51)) (fun _ hk => hk.2) (.slice Ao58 x282006_1.length co58)) (fun _ hk => hk.2) (.int .i64 x282007_1)) (fun _ hk => hk.2) (.bool x282008_1)) (fun _ hk => trivial), by repeat (first | (with_reducible first | exact HB.out | apply below_alloc | apply pw_below_drewN | apply below_drew1 | refine below_set ?_ GE274.out | refine below_set ?_ GE280.out | refine below_set ?_ GE281.out) | exact HB.out)⟩
  · replace c3 := Bool.eq_false_iff.mpr c3
    subst c3
    have H1 : (some (false, 0, 0, 0, 0, ([] : List ByteArray), ([] : List Int), 0, false)) = some (r1, r2, r3, r4, r5, r6, r7, r8, r9) := by rw [if_neg (show ¬ (false = true) by decide)] at H; exact H
    clear H
    have H := H1
    clear H1
    simp only [Option.some.injEq, Prod.mk.injEq] at H
    obtain ⟨rfl, rfl, rfl, rfl, rfl, rfl, rfl, rfl, rfl⟩ := H
    go_enter Try.func37, Try.ntmps37
    go_wp2_with (first | ((with_reducible refine gate_dst (N := 2) rfl ?_); refine box_event ?hg (N := 2) ?hd (cs := #[.bool false, .int .i64 0, .int .i64 0, .int .i64 0, .int .i64 0, .slice none 0 0, .slice none 0 0, .int .i64 0, .bool false]) (t := 47) ?hr ?_; (case hd => rfl); (case hg => rfl); (case hr => first | (go_simp; done) | (go_simp; rfl)); intro gb274 hg w59 hbox hb; have n0_ := Aside0.mk (below_step (by repeat (first | (with_reducible first | exact HB.out | apply below_alloc | apply pw_below_drewN | apply below_drew1) | exact HB.out)) hb); have n1_ := Aside0.mk (hbox); have n2_ := Aside0.mk ((by rw [hg]; exact (below_size (by repeat (first | (with_reducible first | exact HB.out | apply below_alloc | apply pw_below_drewN | apply below_drew1) | exact HB.out))) : w.heap.size ≤ gb274)); have n3_ := Aside0.mk ((by rw [hg]; exact (below_size (by repeat (first | (with_reducible first | exact HB.out | apply below_alloc | apply pw_below_drewN | apply below_drew1) | exact HB.out))) : w.heap.size ≤ gb274)); clear HB; have HB := n0_; have BK274 := n1_; have GW274 := n2_; have GE274 := n3_; clear n0_ n1_ n2_ n3_; clear hb hbox hg) | ((with_reducible refine gate_callee (f := 101) rfl ?_); refine goesL_ (some 12) rfl rfl Try.func101 (by kernel_rfl) rfl #[.string a0] rfl (by (try simp only [List.map_toArray, List.map_cons, List.map_nil]); first | done | rfl | (simp only [List.length_drop, List.length_take]; rfl)) ?_; (with_reducible refine (impl_ReadHead.calls k a0 t275 t276 t277 t278 false _ A2.out).mono ?_); rintro e w60 ⟨rfl, hb⟩; refine ⟨_, rfl, ?_⟩; have n0_ := Aside0.mk (blk_below (g := gb274) (o := .cells #[.bool false, .int .i64 0, .int .i64 0, .int .i64 0, .int .i64 0, .slice none 0 0, .slice none 0 0, .int .i64 0, .bool false] 47 (0, 0)) (by (with_reducible repeat (first | refine blk_drewN ?_ _ | refine blk_drew ?_ | refine blk_alloc ?_ _)); exact BK274.out) hb); have n1_ := Aside0.mk (below_step (by repeat (first | (with_reducible first | exact HB.out | apply below_alloc | apply pw_below_drewN | apply below_drew1 | refine below_set ?_ GE274.out) | exact HB.out)) hb); clear BK274; clear HB; have BK274 := n0_; have HB := n1_; clear n0_ n1_; (try clear hb); (try clear hb2); (try clear hk); (try clear hi)) | ((with_reducible refine gate_dst (N := 3) rfl ?_); refine box_event ?hg (N := 3) ?hd (cs := #[.int .i64 0, .int .i64 0, .int .i64 0, .int .i64 0]) (t := 27) ?hr ?_; (case hd => rfl); (case hg => rfl); (case hr => first | (go_simp; done) | (go_simp; rfl)); intro gb280 hg w61 hbox hb; have n0_ := Aside0.mk (blk_below (g := gb274) (o := .cells #[.bool false, .int .i64 0, .int .i64 0, .int .i64 0, .int .i64 0, .slice none 0 0, .slice none 0 0, .int .i64 0, .bool false] 47 (0, 0)) (by (with_reducible repeat (first | refine blk_drewN ?_ _ | refine blk_drew ?_ | refine blk_alloc ?_ _)); exact BK274.out) hb); have n1_ := Aside0.mk (below_step (by repeat (first | (with_reducible first | exact HB.out | apply below_alloc | apply pw_below_drewN | apply below_drew1 | refine below_set ?_ GE274.out) | exact HB.out)) hb); have n2_ := Aside0.mk (hbox); have n3_ := Aside0.mk ((by rw [hg]; exact (below_size (by repeat (first | (with_reducible first | exact HB.out | apply below_alloc | apply pw_below_drewN | apply below_drew1 | refine below_set ?_ GE274.out) | exact HB.out))) : w.heap.size ≤ gb280)); have n4_ := Aside0.mk ((by rw [hg]; exact (below_size (by repeat (first | (with_reducible first | exact HB.out | apply below_alloc | apply pw_below_drewN | apply below_drew1 | refine below_set ?_ GE274.out) | exact HB.out))) : w.heap.size ≤ gb280)); have n5_ := Aside0.mk ((by rw [hg]; exact Nat.ne_of_lt (blk_lt (g := gb274) (o := .cells #[.bool false, .int .i64 0, .int .i64 0, .int .i64 0, .int .i64 0, .slice none 0 0, .slice none 0 0, .int .i64 0, .bool false] 47 (0, 0)) (by (with_reducible repeat (first | refine blk_drewN ?_ _ | refine blk_drew ?_ | refine blk_alloc ?_ _)); exact BK274.out)) : gb274 ≠ gb280)); have n6_ := Aside0.mk ((by rw [hg]; exact Nat.ne_of_gt (blk_lt (g := gb274) (o := .cells #[.bool false, .int .i64 0, .int .i64 0, .int .i64 0, .int .i64 0, .slice none 0 0, .slice none 0 0, .int .i64 0, .bool false] 47 (0, 0)) (by (with_reducible repeat (first | refine blk_drewN ?_ _ | refine blk_drew ?_ | refine blk_alloc ?_ _)); exact BK274.out)) : gb280 ≠ gb274)); clear BK274; clear HB; have BK274 := n0_; have HB := n1_; have BK280 := n2_; have GW280 := n3_; have GE280 := n4_; have NB274_280 := n5_; have NB280_274 := n6_; clear n0_ n1_ n2_ n3_ n4_ n5_ n6_; clear hb hbox hg; have hnb62 := NB280_274.out; have hnc62 := NB274_280.out; have hcz63_0 : w61.cell? ⟨gb280, 0, none⟩ = some (.int .i64 0) := (blk_cell BK280.out 0).trans rfl; have hcz63_1 : w61.cell? ⟨gb280, 1, none⟩ = some (.int .i64 0) := (blk_cell BK280.out 1).trans rfl; have hcz63_2 : w61.cell? ⟨gb280, 2, none⟩ = some (.int .i64 0) := (blk_cell BK280.out 2).trans rfl; have hcz63_3 : w61.cell? ⟨gb280, 3, none⟩ = some (.int .i64 0) := (blk_cell BK280.out 3).trans rfl; have hfz63_0 := blk_frozen BK280.out 0; have hfz63_1 := blk_frozen BK280.out 1; have hfz63_2 := blk_frozen BK280.out 2; have hfz63_3 := blk_frozen BK280.out 3; have hcz64_0 : w61.cell? ⟨gb274, 0, none⟩ = some (.bool false) := (blk_cell BK274.out 0).trans rfl; have hcz64_1 : w61.cell? ⟨gb274, 1, none⟩ = some (.int .i64 0) := (blk_cell BK274.out 1).trans rfl; have hcz64_2 : w61.cell? ⟨gb274, 2, none⟩ = some (.int .i64 0) := (blk_cell BK274.out 2).trans rfl; have hcz64_3 : w61.cell? ⟨gb274, 3, none⟩ = some (.int .i64 0) := (blk_cell BK274.out 3).trans rfl; have hcz64_4 : w61.cell? ⟨gb274, 4, none⟩ = some (.int .i64 0) := (blk_cell BK274.out 4).trans rfl; have hcz64_5 : w61.cell? ⟨gb274, 5, none⟩ = some (.slice none 0 0) := (blk_cell BK274.out 5).trans rfl; have hcz64_6 : w61.cell? ⟨gb274, 6, none⟩ = some (.slice none 0 0) := (blk_cell BK274.out 6).trans rfl; have hcz64_7 : w61.cell? ⟨gb274, 7, none⟩ = some (.int .i64 0) := (blk_cell BK274.out 7).trans rfl; have hcz64_8 : w61.cell? ⟨gb274, 8, none⟩ = some (.bool false) := (blk_cell BK274.out 8).trans rfl; have hfz64_0 := blk_frozen BK274.out 0; have hfz64_1 := blk_frozen BK274.out 1; have hfz64_2 := blk_frozen BK274.out 2; have hfz64_3 := blk_frozen BK274.out 3; have hfz64_4 := blk_frozen BK274.out 4; have hfz64_5 := blk_frozen BK274.out 5; have hfz64_6 := blk_frozen BK274.out 6; have hfz64_7 := blk_frozen BK274.out 7; have hfz64_8 := blk_frozen BK274.out 8))
    refine bodyPost_ret (results_cell_row rfl _ _ gb274 47 #[.bool false, .int .i64 0, .int .i64 0, .int .i64 0, .int .i64 0, .slice none 0 0, .slice none 0 0, .int .i64 0, .bool false] (0, 0) _ rfl (by (with_reducible repeat (first | refine blk_drewN ?_ _ | refine blk_drew ?_ | refine blk_alloc ?_ _)); refine blk_put (cs := #[.bool false, .int .i64 0, .int .i64 0, .int .i64 0, .int .i64 0, .slice none 0 0, .slice none 0 0, .int .i64 0, .bool false]) ?_ 8 _ rfl; (with_reducible repeat (first | refine blk_drewN ?_ _ | refine blk_drew ?_ | refine blk_alloc ?_ _)); refine blk_put (cs := #[.bool false, .int .i64 0, .int .i64 0, .int .i64 0, .int .i64 0, .slice none 0 0, .slice none 0 0, .int .i64 0, .bool false]) ?_ 7 _ rfl; (with_reducible repeat (first | refine blk_drewN ?_ _ | refine blk_drew ?_ | refine blk_alloc ?_ _)); refine blk_put (cs := #[.bool false, .int .i64 0, .int .i64 0, .int .i64 0, .int .i64 0, .slice none 0 0, .slice none 0 0, .int .i64 0, .bool false]) ?_ 6 _ rfl; (with_reducible repeat (first | refine blk_drewN ?_ _ | refine blk_drew ?_ | refine blk_alloc ?_ _)); refine blk_put (cs := #[.bool false, .int .i64 0, .int .i64 0, .int .i64 0, .int .i64 0, .slice none 0 0, .slice none 0 0, .int .i64 0, .bool false]) ?_ 5 _ rfl; (with_reducible repeat (first | refine blk_drewN ?_ _ | refine blk_drew ?_ | refine blk_alloc ?_ _)); refine blk_put (cs := #[.bool false, .int .i64 0, .int .i64 0, .int .i64 0, .int .i64 0, .slice none 0 0, .slice none 0 0, .int .i64 0, .bool false]) ?_ 4 _ rfl; (with_reducible repeat (first | refine blk_drewN ?_ _ | refine blk_drew ?_ | refine blk_alloc ?_ _)); refine blk_put (cs := #[.bool false, .int .i64 0, .int .i64 0, .int .i64 0, .int .i64 0, .slice none 0 0, .slice none 0 0, .int .i64 0, .bool false]) ?_ 3 _ rfl; (with_reducible repeat (first | refine blk_drewN ?_ _ | refine blk_drew ?_ | refine blk_alloc ?_ _)); refine blk_put (cs := #[.bool false, .int .i64 0, .int .i64 0, .int .i64 0, .int .i64 0, .slice none 0 0, .slice none 0 0, .int .i64 0, .bool false]) ?_ 2 _ rfl; (with_reducible repeat (first | refine blk_drewN ?_ _ | refine blk_drew ?_ | refine blk_alloc ?_ _)); refine blk_put (cs := #[.bool false, .int .i64 0, .int .i64 0, .int .i64 0, .int .i64 0, .slice none 0 0, .slice none 0 0, .int .i64 0, .bool false]) ?_ 1 _ rfl; (with_reducible repeat (first | refine blk_drewN ?_ _ | refine blk_drew ?_ | refine blk_alloc ?_ _)); refine blk_put (cs := #[.bool false, .int .i64 0, .int .i64 0, .int .i64 0, .int .i64 0, .slice none 0 0, .slice none 0 0, .int .i64 0, .bool false]) ?_ 0 _ rfl; (with_reducible repeat (first | refine blk_drewN ?_ _ | refine blk_drew ?_ | refine blk_alloc ?_ _)); refine blk_far ?_ NB274_280.out _; (with_reducible repeat (first | refine blk_drewN ?_ _ | refine blk_drew ?_ | refine blk_alloc ?_ _)); refine blk_far ?_ NB274_280.out _; (with_reducible repeat (first | refine blk_drewN ?_ _ | refine blk_drew ?_ | refine blk_alloc ?_ _)); refine blk_far ?_ NB274_280.out _; (with_reducible repeat (first | refine blk_drewN ?_ _ | refine blk_drew ?_ | refine blk_alloc ?_ _)); refine blk_far ?_ NB274_280.out _; (with_reducible repeat (first | refine blk_drewN ?_ _ | refine blk_drew ?_ | refine blk_alloc ?_ _)); exact BK274.out) Try.underlying47 rfl (by kernel_rfl)) rfl ?_
    exact ⟨_, _, by first | rfl | (simp [errW_none, errW_some] <;> rfl) | (simp [*, errW_none, errW_some] <;> rfl), by first | exact Kd.R_nil _ _ _ _ _ | exact Kd.N_nil _ _ _ _ _ | exact Kd.V_nil _ _ _ _ _ | exact Kd.Q_nil _ _ _ _ _ | exact Kd.S_nil _ _ _ _ _, by first | exact Kd.R_nil _ _ _ _ _ | exact Kd.N_nil _ _ _ _ _ | exact Kd.V_nil _ _ _ _ _ | exact Kd.Q_nil _ _ _ _ _ | exact Kd.S_nil _ _ _ _ _, by repeat (first | (with_reducible first | exact HB.out | apply below_alloc | apply pw_below_drewN | apply below_drew1 | refine below_set ?_ GE274.out | refine below_set ?_ GE280.out) | exact HB.out)⟩

/-! ### impl_RecordsIn: function 24 -/
def impl_RecordsIn.f (k : Nat) (a0 : ByteArray) : Option (List ByteArray) := (impl_ScanText.f k a0).bind fun bt292 => (some bt292.2.2.2.2.2.1)
set_option maxHeartbeats 8000000 in
set_option maxRecDepth 100000 in
theorem impl_RecordsIn.calls (k : Nat) (a0 : ByteArray) (r : List ByteArray) (w : World) (h : impl_RecordsIn.f k a0 = some r) :
    Calls Try.prog 24 #[.string a0] w fun e w' => ∃ v0_ : Value, e = .returned (v0_) ∧ Kd.R Kd.string 9 w' w.heap.size (fun _ => True) v0_ r ∧ Below w.heap.size w w' := by
  have HB := Aside0.mk (Below.refl w.heap.size w)
  have H : ((impl_ScanText.f k a0).bind fun bt292 => (some bt292.2.2.2.2.2.1)) = some r := h
  clear h
  replace H := Option.bind_eq_some_iff.mp H
  obtain ⟨⟨t292, t293, t294, t295, t296, t297, t300, t303, t304⟩, A20, H⟩ := H
  replace H : (some t297) = some r := H
  have A2 := Aside0.mk A20
  clear A20
  obtain rfl := Option.some.inj H
  have hfe2 : ∀ (w_ : World) (a_ b_ : Value), (Instr.field 47 (.agg #[.bool t292, .int .i64 t293, .int .i64 t294, .int .i64 t295, .int .i64 t296, a_, b_, .int .i64 t303, .bool t304]) 2).run Try.prog w_ = .ok (a_) w_ := fun _ _ _ => by kernel_rfl
  have hfe4 : ∀ (w_ : World) (a_ b_ : Value), (Instr.field 47 (.agg #[.bool t292, .int .i64 t293, .int .i64 t294, .int .i64 t295, .int .i64 t296, a_, b_, .int .i64 t303, .bool t304]) 4).run Try.prog w_ = .ok (.int .i64 t303) w_ := fun _ _ _ => by kernel_rfl
  go_enter Try.func24, Try.ntmps24
  go_wp2_with (first | ((with_reducible refine gate_callee (f := 37) rfl ?_); refine goesL_ (some 4) rfl rfl Try.func37 (by kernel_rfl) rfl #[.string a0] rfl (by (try simp only [List.map_toArray, List.map_cons, List.map_nil]); first | done | rfl | (simp only [List.length_drop, List.length_take]; rfl)) ?_; (with_reducible refine (impl_ScanText.calls k a0 t292 t293 t294 t295 t296 t297 t300 t303 t304 _ A2.out).mono ?_); rintro e w3 ⟨v298, v301, rfl, ho0, ho1, hb⟩; refine ⟨_, rfl, ?_⟩; have n0_ := Aside0.mk (Kd.R_lower ho0 (below_size (by repeat (first | (with_reducible first | exact HB.out | apply below_alloc | apply pw_below_drewN | apply below_drew1) | exact HB.out)))); have n1_ := Aside0.mk (Kd.R_lower ho1 (below_size (by repeat (first | (with_reducible first | exact HB.out | apply below_alloc | apply pw_below_drewN | apply below_drew1) | exact HB.out)))); have n2_ := Aside0.mk (below_step (by repeat (first | (with_reducible first | exact HB.out | apply below_alloc | apply pw_below_drewN | apply below_drew1) | exact HB.out)) hb); clear HB; have HO299 := n0_; have HO302 := n1_; have HB := n2_; clear n0_ n1_ n2_; (try clear hb); (try clear hb2); (try clear hk); (try clear hi); (try clear ho0); (try clear ho1)))
  go_ret
  exact ⟨_, by first | rfl | (simp [errW_none, errW_some] <;> rfl) | (simp [*, errW_none, errW_some] <;> rfl), by (with_reducible repeat (first | apply Kd.R_alloc | apply Kd.R_drewN | apply Kd.R_drew)); exact HO299.out, by repeat (first | (with_reducible first | exact HB.out | apply below_alloc | apply pw_below_drewN | apply below_drew1) | exact HB.out)⟩

/-! ### laws_markText: function 77 -/
def laws_markText.l0 : Nat → Int → ByteArray → Option (ByteArray)
  | 0, _, _ => none
  | k + 1, x0, x3 => if x0 > 0 then ((some (([(wrap64 (48 + (Int.tmod x0 10))) % 256] : List Int) : List Int)).bind fun y305 => (if (strOfNums y305).size + x3.size ≤ 9223372036854775807 then (laws_markText.l0 k (wrap64 (Int.tdiv x0 10)) ((strOfNums y305) ++ x3)) else (none))) else (if 1 + x3.size ≤ 9223372036854775807 then (some ((⟨#[109]⟩ : ByteArray) ++ x3)) else (none))
def laws_markText.f (k : Nat) (a0 : Int) : Option (ByteArray) := if a0 ≤ 0 then (some (⟨#[109, 48]⟩ : ByteArray)) else (laws_markText.l0 k a0 (⟨#[]⟩ : ByteArray))
set_option maxHeartbeats 8000000 in
set_option maxRecDepth 100000 in
theorem laws_markText.calls (k : Nat) (a0 : Int) (r : ByteArray) (w : World) (h : laws_markText.f k a0 = some r) :
    Calls Try.prog 77 #[.int .i64 a0] w fun e w' => e = .returned (.string r) ∧ Below w.heap.size w w' := by
  have HB := Aside0.mk (Below.refl w.heap.size w)
  have H : (if a0 ≤ 0 then (some (⟨#[109, 48]⟩ : ByteArray)) else (laws_markText.l0 k a0 (⟨#[]⟩ : ByteArray))) = some r := h
  clear h
  by_cases c2 : a0 ≤ 0
  · rw [if_pos c2] at H
    have c2b0 : decide (a0 ≤ 0) = true := decide_eq_true c2
    clear c2
    obtain rfl := Option.some.inj H
    go_enter Try.func77, Try.ntmps77
    go_wp2
    go_ret
    exact ⟨by first | rfl | (simp [errW_none, errW_some] <;> rfl) | (simp [*, errW_none, errW_some] <;> rfl), by repeat (first | (with_reducible first | exact HB.out | apply below_alloc | apply pw_below_drewN | apply below_drew1) | exact HB.out)⟩
  · rw [if_neg c2] at H
    have c2b0 : decide (a0 ≤ 0) = false := decide_eq_false c2
    clear c2
    have H' := Aside0.mk H
    clear H
    go_enter Try.func77, Try.ntmps77
    go_wp2
    go_loopg [0, 3] k (fun kq v0 v3 w' => ∃ (x0_1 : Int) (x3_1 : ByteArray), v0 = .int .i64 x0_1 ∧ v3 = .string x3_1 ∧ Aside0 (laws_markText.l0 kq x0_1 x3_1 = some r) ∧ Aside0 (kq ≤ k) ∧ Aside0 (Below w.heap.size w w'))
    case atStart => exact ⟨(a0), ((⟨#[]⟩ : ByteArray)), (by first | rfl | (simp; done) | (simp [*]; done)), (by first | rfl | (simp; done) | (simp [*]; done)), H', ⟨Nat.le_refl _⟩, ⟨by repeat (first | (with_reducible first | exact HB.out | apply below_alloc | apply pw_below_drewN | apply below_drew1) | exact HB.out)⟩⟩
    case round =>
      clear H'
      try clear c2
      try clear c2b0
      try clear p2
      obtain ⟨x0_1, x3_1, rfl, rfl, HA, HK1, HB⟩ := hrel
      cases gk with
      | zero => exact absurd HA.out (by simp [laws_markText.l0])
      | succ k1 =>
        have H := HA.out
        clear HA
        simp only [laws_markText.l0] at H
        by_cases c3 : x0_1 > 0
        · rw [if_pos c3] at H
          have c3b0 : decide (0 < x0_1) = true := decide_eq_true c3
          clear c3
          obtain ⟨y305, hy305⟩ : ∃ y_ : List Int, y_ = (([(wrap64 (48 + (Int.tmod x0_1 10))) % 256] : List Int)) := ⟨_, rfl⟩
          replace H : (if (strOfNums y305).size + x3_1.size ≤ 9223372036854775807 then (laws_markText.l0 k1 (wrap64 (Int.tdiv x0_1 10)) ((strOfNums y305) ++ x3_1)) else (none)) = some r := by first | (rw [hy305]; with_reducible exact H) | (have H2_ := (Option.bind_some _ _).symm.trans H; rw [hy305]; with_reducible exact H2_) | (have H2_ := (Option.bind_some _ _).symm.trans H; with_reducible exact H2_) | with_reducible exact H | (rw [hy305]; exact H) | exact H
          have Ny305 := Aside0.mk hy305
          clear hy305
          by_cases c4 : (strOfNums y305).size + x3_1.size ≤ 9223372036854775807
          · rw [if_pos c4] at H
            have c4b0 := eq_true c4
            have c4b1 : decide ((strOfNums y305).size + x3_1.size ≤ 9223372036854775807) = true := decide_eq_true c4
            try have c4b2 : (9223372036854775807 < (strOfNums y305).size + x3_1.size) = False := eq_false (Nat.not_lt.2 c4)
            have H' := Aside0.mk H
            clear H
            go_wp2_with (first | ((with_reducible refine gate_dst (N := 12) rfl ?_); refine Kd.R_lit (Kd.int .u8) _ 5 ?hg (N := 12) ?hd (xs := ([(wrap64 (48 + (Int.tmod x0_1 10))) % 256] : List Int)) (inner := [.int .u8 ((wrap64 (48 + (Int.tmod x0_1 10))) % 256)]) (ok := fun _ => True) (okp := fun _ => True) ?hr ?hp (fun _ hk => hk) trivial (Below.refl _ _) (Nat.le_refl _) (by simp) ?_; (case hd => rfl); (case hg => rfl); (case hr => first | (go_simp; done) | (go_simp; rfl)); (case hp => exact (Reps.one (show Kd.M (Kd.int .u8) _ _ _ ((wrap64 (48 + (Int.tmod x0_1 10))) % 256) [.int .u8 ((wrap64 (48 + (Int.tmod x0_1 10))) % 256)] from rfl) (Reps.none _ _))); intro v306 w5 ho6 hb hg_ hnew_; clear hg_ hnew_; (first | rw [← Ny305.out] at ho6 | (simp only [Int.reduceToNat] at ho6; rw [← Ny305.out] at ho6)); have n0_ := Aside0.mk (Kd.R_lower ho6 (below_size (by repeat (first | (with_reducible first | exact HB.out | apply below_alloc | apply pw_below_drewN | apply below_drew1) | exact HB.out)))); have n1_ := Aside0.mk (below_step (by repeat (first | (with_reducible first | exact HB.out | apply below_alloc | apply pw_below_drewN | apply below_drew1) | exact HB.out)) hb); clear HB; have HO307 := n0_; have HB := n1_; clear n0_ n1_; clear hb ho6; have hcv7 := own_string (P := Try.prog) Try.underlying35 Try.underlying5 Try.underlying9 (Kd.own_of_R HO307.out)))
            go_roundg k1
            case measure => have := HK1.out; omega
            case rel => exact ⟨(wrap64 (Int.tdiv x0_1 10)), ((strOfNums y305) ++ x3_1), (by first | rfl | (simp; done) | (simp [*]; done)), (by first | rfl | (simp; done) | (simp [*]; done)), H', ⟨by have := HK1.out; omega⟩, ⟨by repeat (first | (with_reducible first | exact HB.out | apply below_alloc | apply pw_below_drewN | apply below_drew1) | exact HB.out)⟩⟩
          · rw [if_neg c4] at H
            exact absurd H (by simp)
        · rw [if_neg c3] at H
          have c3b0 : decide (0 < x0_1) = false := decide_eq_false c3
          clear c3
          by_cases c8 : 1 + x3_1.size ≤ 9223372036854775807
          · rw [if_pos c8] at H
            have c8b0 := eq_true c8
            have c8b1 : decide (1 + x3_1.size ≤ 9223372036854775807) = true := decide_eq_true c8
            try have c8b2 : (9223372036854775807 < 1 + x3_1.size) = False := eq_false (Nat.not_lt.2 c8)
            obtain rfl := Option.some.inj H
            go_wp2
            go_ret
            exact ⟨by first | rfl | (simp [errW_none, errW_some] <;> rfl) | (simp [*, errW_none, errW_some] <;> rfl), by repeat (first | (with_reducible first | exact HB.out | apply below_alloc | apply pw_below_drewN | apply below_drew1) | exact HB.out)⟩
          · rw [if_neg c8] at H
            exact absurd H (by simp)

/-! ### laws_markStringS: function 25 -/
def laws_markStringS.l0 : Nat → List ByteArray → Int → Int → Option (Int × List ByteArray)
  | 0, _, _, _ => none
  | k + 1, x0, x1, x5 => if x5 < (x0.length : Int) then ((laws_markText.f k x1).bind fun t308 => (if 0 ≤ x5 then (laws_markStringS.l0 k (x0.set (x5 : Int).toNat t308) (wrap64 (x1 + 1)) (wrap64 (x5 + 1))) else (none))) else (some (x1, x0))
def laws_markStringS.f (k : Nat) (l0 : List ByteArray) (a1 : Int) : Option (Int × List ByteArray) := laws_markStringS.l0 k l0 a1 0
set_option maxHeartbeats 8000000 in
set_option maxRecDepth 100000 in
theorem laws_markStringS.calls (k : Nat) (P0_ : Nat → Prop) (u9000_ : Value) (l0 : List ByteArray) (a1 : Int) (r1 : Int) (r2 : List ByteArray) (w0 w : World) (hB : Below w0.heap.size w0 w) (ho0 : Kd.R Kd.string 9 w w0.heap.size P0_ u9000_ l0) (h : laws_markStringS.f k l0 a1 = some (r1, r2)) :
    Calls Try.prog 25 #[u9000_, .int .i64 a1] w fun e w' => e = .returned (.int .i64 r1) ∧ Kd.R Kd.string 9 w' w0.heap.size (fun k_ => (P0_ k_ ∨ w.heap.size ≤ k_)) u9000_ r2 ∧ Below w0.heap.size w0 w' ∧ Kept w w' (fun k_ => P0_ k_) := by
  have HO0 := Aside0.mk (show Kd.R Kd.string 9 w w0.heap.size (fun k_ => (P0_ k_ ∨ w.heap.size ≤ k_)) u9000_ l0 from Kd.R_mono ho0 (fun k_ hk => (.inl hk)))
  have HK := Aside0.mk (Kept.refl w (fun k_ => P0_ k_))
  have HW0 := Aside0.mk hB.size
  have HB := Aside0.mk hB
  clear hB
  have H : (laws_markStringS.l0 k l0 a1 0) = some (r1, r2) := h
  clear h
  have H' := Aside0.mk H
  clear H
  go_enter Try.func25, Try.ntmps25
  go_wp2
  go_loopg [1, 5] k (fun kq v1 v5 w' => ∃ (x0_1 : List ByteArray) (x1_1 : Int) (x5_1 : Int), v1 = .int .i64 x1_1 ∧ v5 = .int .i64 x5_1 ∧ Aside0 (laws_markStringS.l0 kq x0_1 x1_1 x5_1 = some (r1, r2)) ∧ Aside0 (kq ≤ k) ∧ Aside0 (Kd.R Kd.string 9 w' w0.heap.size (fun k_ => (P0_ k_ ∨ w.heap.size ≤ k_)) u9000_ x0_1) ∧ Aside0 (Kept w w' (fun k_ => P0_ k_)) ∧ Aside0 (Below w0.heap.size w0 w'))
  case atStart => exact ⟨(l0), (a1), (0), (by first | rfl | (simp; done) | (simp [*]; done)), (by first | rfl | (simp; done) | (simp [*]; done)), H', ⟨Nat.le_refl _⟩, ⟨by (with_reducible repeat (first | apply Kd.R_alloc | apply Kd.R_drewN | apply Kd.R_drew)); exact HO0.out⟩, ⟨by repeat (first | (with_reducible first | exact HK.out | apply Kept.alloc | apply Kept.drewN | apply Kept.drew) | exact HK.out)⟩, ⟨by repeat (first | (with_reducible first | exact HB.out | apply below_alloc | apply pw_below_drewN | apply below_drew1) | exact HB.out)⟩⟩
  case round =>
    clear H'
    try clear c2
    try clear p2
    obtain ⟨x0_1, x1_1, x5_1, rfl, rfl, HA, HK1, HO_0, HK, HB⟩ := hrel
    cases gk with
    | zero => exact absurd HA.out (by simp [laws_markStringS.l0])
    | succ k1 =>
      have H := HA.out
      clear HA
      simp only [laws_markStringS.l0] at H
      by_cases c3 : x5_1 < (x0_1.length : Int)
      · rw [if_pos c3] at H
        have c3b0 : decide (x5_1 < (x0_1.length : Int)) = true := decide_eq_true c3
        clear c3
        replace H := Option.bind_eq_some_iff.mp H
        obtain ⟨t308, A40, H⟩ := H
        replace H : (if 0 ≤ x5_1 then (laws_markStringS.l0 k1 (x0_1.set (x5_1 : Int).toNat t308) (wrap64 (x1_1 + 1)) (wrap64 (x5_1 + 1))) else (none)) = some (r1, r2) := H
        have A4 := Aside0.mk A40
        clear A40
        by_cases c5 : 0 ≤ x5_1
        · rw [if_pos c5] at H
          have c5b0 : decide (0 ≤ x5_1) = true := decide_eq_true c5
          clear c5
          obtain ⟨y309, hy309⟩ : ∃ y_ : List ByteArray, y_ = (x0_1.set (x5_1 : Int).toNat t308) := ⟨_, rfl⟩
          replace H : (laws_markStringS.l0 k1 y309 (wrap64 (x1_1 + 1)) (wrap64 (x5_1 + 1))) = some (r1, r2) := by first | (rw [hy309]; with_reducible exact H) | (have H2_ := (Option.bind_some _ _).symm.trans H; rw [hy309]; with_reducible exact H2_) | (have H2_ := (Option.bind_some _ _).symm.trans H; with_reducible exact H2_) | with_reducible exact H | (rw [hy309]; exact H) | exact H
          have Ny309 := Aside0.mk hy309
          clear hy309
          have H' := Aside0.mk H
          clear H
          obtain ⟨Ao7, co7, eo7⟩ := Kd.R_slice HO_0.out
          subst eo7
          go_wp2_with (first | ((with_reducible refine gate_callee (f := 77) rfl ?_); refine goesL_ (some 15) rfl rfl Try.func77 (by kernel_rfl) rfl #[.int .i64 x1_1] rfl (by (try simp only [List.map_toArray, List.map_cons, List.map_nil]); first | done | rfl | (simp only [List.length_drop, List.length_take]; rfl)) ?_; (with_reducible refine (laws_markText.calls k1 x1_1 t308 _ A4.out).mono ?_); rintro e w8 ⟨rfl, hb⟩; refine ⟨_, rfl, ?_⟩; have n0_ := Aside0.mk (Kd.R_below (by (with_reducible repeat (first | apply Kd.R_alloc | apply Kd.R_drewN | apply Kd.R_drew)); exact HO_0.out) hb); have n1_ := Aside0.mk (Kept.below (S := (fun k_ => P0_ k_)) (by repeat (first | (with_reducible first | exact HK.out | apply Kept.alloc | apply Kept.drewN | apply Kept.drew) | exact HK.out)) hb); have n2_ := Aside0.mk (below_step (by repeat (first | (with_reducible first | exact HB.out | apply below_alloc | apply pw_below_drewN | apply below_drew1) | exact HB.out)) hb); clear HO_0; clear HK; clear HB; have HO_0 := n0_; have HK := n1_; have HB := n2_; clear n0_ n1_ n2_; (try clear hb); (try clear hb2); (try clear hk); (try clear hi); have p6 : 0 ≤ (x5_1 : Int) := of_decide_eq_true (by first | (with_reducible assumption) | assumption); have q6 : (x5_1 : Int) < ((x0_1.length : Int) : Int) := of_decide_eq_true (by first | (with_reducible assumption) | assumption); obtain ⟨go6, co6, eo6, gb6, gl6, cl6, HG6⟩ := Kd.R_form HO_0.out (by omega); (first | cases eo6 | (injection eo6 with ea_ en_ ec_; (first | subst ea_ | (injection ea_ with ea_; subst ea_)); subst ec_; clear en_)); have GB6 := Aside0.mk gb6; have GG6 := Aside0.mk HG6; clear gb6 gl6 HG6; have HMgo6 := Aside0.mk (show (P0_ go6 ∨ w.heap.size ≤ go6) from (HO_0.out.1 _ rfl)); obtain ⟨hx6_0, hf6_0⟩ := Kd.R_celln (⟨#[]⟩ : ByteArray) HO_0.out (x5_1 : Int) p6 q6; replace p6 := eq_true p6; replace q6 := eq_true q6; obtain ⟨hy9_, hz9_⟩ := Kd.R_celln (⟨#[]⟩ : ByteArray) HO_0.out (x5_1 : Int) (of_decide_eq_true (by first | (with_reducible assumption) | assumption)) (of_decide_eq_true (by first | (with_reducible assumption) | assumption)); have HP9 := Kd.R_putg HO_0.out (x5_1 : Int) t308) | ((with_reducible refine gate_store (t := 9) (p := 16) rfl ?_); refine store_event (t := 9) (p := 16) (v := ?vo_w10) (w1 := (w8.setCell ⟨go6, (x5_1 : Int).toNat, none⟩ (.string t308))) ?hg ?ho ?hn ?hr ?_; (case ho => rfl); (case hg => rfl); (case hn => rfl); (case hr => first | (go_simp; done) | (go_simp; rfl)); intro w10 hw; have hg : w8.grownBy w10 (some go6) := (by rw [hw]; exact HP9.2); have hp_ : Kd.R Kd.string 9 w10 w0.heap.size (fun k_ => (P0_ k_ ∨ w.heap.size ≤ k_)) (.slice (some ⟨go6, 0, none⟩) x0_1.length co7) y309 := (by rw [hw, Ny309.out]; exact HP9.1); clear HP9; have n0_ := Aside0.mk (hp_); have n1_ := Aside0.mk ((by rw [hw]; exact below_set (HB.out) GB6.out : Below w0.heap.size w0 w10)); have n2_ := Aside0.mk (Kept.of_grown (S := (fun k_ => P0_ k_)) hg (by repeat (first | (with_reducible first | exact HK.out | apply Kept.alloc | apply Kept.drewN | apply Kept.drew) | exact HK.out)) (fun k_ e_ => (HO_0.out.1 k_ e_))); clear HO_0; clear HB; clear HK; have HO_0 := n0_; have HB := n1_; have HK := n2_; clear n0_ n1_ n2_; clear hg hw hp_))
          go_roundg k1
          case measure => have := HK1.out; omega
          case rel => exact ⟨(y309), (wrap64 (x1_1 + 1)), (wrap64 (x5_1 + 1)), (by first | rfl | (simp; done) | (simp [*]; done)), (by first | rfl | (simp; done) | (simp [*]; done)), H', ⟨by have := HK1.out; omega⟩, ⟨by (with_reducible repeat (first | apply Kd.R_alloc | apply Kd.R_drewN | apply Kd.R_drew)); exact HO_0.out⟩, ⟨by repeat (first | (with_reducible first | exact HK.out | apply Kept.alloc | apply Kept.drewN | apply Kept.drew) | exact HK.out)⟩, ⟨by repeat (first | (with_reducible first | exact HB.out | apply below_alloc | apply pw_below_drewN | apply below_drew1) | exact HB.out)⟩⟩
        · rw [if_neg c5] at H
          exact absurd H (by simp)
      · rw [if_neg c3] at H
        have c3b0 : decide (x5_1 < (x0_1.length : Int)) = false := decide_eq_false c3
        clear c3
        simp only [Option.some.injEq, Prod.mk.injEq] at H
        obtain ⟨rfl, rfl⟩ := H
        obtain ⟨Ao11, co11, eo11⟩ := Kd.R_slice HO_0.out
        subst eo11
        go_wp2
        go_ret
        exact ⟨by first | rfl | (simp [errW_none, errW_some] <;> rfl) | (simp [*, errW_none, errW_some] <;> rfl), by (with_reducible repeat (first | apply Kd.R_alloc | apply Kd.R_drewN | apply Kd.R_drew)); exact HO_0.out, by repeat (first | (with_reducible first | exact HB.out | apply below_alloc | apply pw_below_drewN | apply below_drew1) | exact HB.out), by repeat (first | (with_reducible first | exact HK.out | apply Kept.alloc | apply Kept.drewN | apply Kept.drew) | exact HK.out)⟩

/-! ### laws_heldStringS: function 26 -/
def laws_heldStringS.l0 : Nat → List ByteArray → Int → Int → Option (Int)
  | 0, _, _, _ => none
  | k + 1, x0, x1, x5 => if x5 < (x0.length : Int) then (if 0 ≤ x5 then ((laws_markText.f k x1).bind fun t311 => (if (rdOf ByteArray.empty x0 x5).toList = t311.toList then (laws_heldStringS.l0 k x0 (wrap64 (x1 + 1)) (wrap64 (x5 + 1))) else (some (-1)))) else (none)) else (some x1)
def laws_heldStringS.f (k : Nat) (l0 : List ByteArray) (a1 : Int) : Option (Int) := laws_heldStringS.l0 k l0 a1 0
set_option maxHeartbeats 8000000 in
set_option maxRecDepth 100000 in
theorem laws_heldStringS.calls (k : Nat) (A0 : Option Addr) (c0 : Nat) (l0 : List ByteArray) (a1 : Int) (r : Int) (w : World) (hr0 : Kd.C Kd.string w A0 l0.length l0) (hc0 : l0.length ≤ c0) (h : laws_heldStringS.f k l0 a1 = some r) :
    Calls Try.prog 26 #[.slice A0 l0.length c0, .int .i64 a1] w fun e w' => e = .returned (.int .i64 r) ∧ Below w.heap.size w w' := by
  have HR0 := Aside0.mk hr0
  have HC0 := Aside0.mk hc0
  clear hr0 hc0
  have HB := Aside0.mk (Below.refl w.heap.size w)
  have H : (laws_heldStringS.l0 k l0 a1 0) = some r := h
  clear h
  have H' := Aside0.mk H
  clear H
  go_enter Try.func26, Try.ntmps26
  go_wp2
  go_loopg [1, 5] k (fun kq v1 v5 w' => ∃ (x1_1 : Int) (x5_1 : Int), v1 = .int .i64 x1_1 ∧ v5 = .int .i64 x5_1 ∧ Aside0 (laws_heldStringS.l0 kq l0 x1_1 x5_1 = some r) ∧ Aside0 (kq ≤ k) ∧ Aside0 (Below w.heap.size w w'))
  case atStart => exact ⟨(a1), (0), (by first | rfl | (simp; done) | (simp [*]; done)), (by first | rfl | (simp; done) | (simp [*]; done)), H', ⟨Nat.le_refl _⟩, ⟨by repeat (first | (with_reducible first | exact HB.out | apply below_alloc | apply pw_below_drewN | apply below_drew1) | exact HB.out)⟩⟩
  case round =>
    clear H'
    try clear c2
    try clear p2
    obtain ⟨x1_1, x5_1, rfl, rfl, HA, HK1, HB⟩ := hrel
    cases gk with
    | zero => exact absurd HA.out (by simp [laws_heldStringS.l0])
    | succ k1 =>
      have H := HA.out
      clear HA
      simp only [laws_heldStringS.l0] at H
      by_cases c3 : x5_1 < (l0.length : Int)
      · rw [if_pos c3] at H
        have c3b0 : decide (x5_1 < (l0.length : Int)) = true := decide_eq_true c3
        clear c3
        by_cases c4 : 0 ≤ x5_1
        · rw [if_pos c4] at H
          have c4b0 : decide (0 ≤ x5_1) = true := decide_eq_true c4
          clear c4
          replace H := Option.bind_eq_some_iff.mp H
          obtain ⟨t311, A50, H⟩ := H
          replace H : (if (rdOf ByteArray.empty l0 x5_1).toList = t311.toList then (laws_heldStringS.l0 k1 l0 (wrap64 (x1_1 + 1)) (wrap64 (x5_1 + 1))) else (some (-1))) = some r := H
          have A5 := Aside0.mk A50
          clear A50
          by_cases c6 : (rdOf ByteArray.empty l0 x5_1).toList = t311.toList
          · rw [if_pos c6] at H
            have c6b0 : ((rdOf ByteArray.empty l0 x5_1).toList == t311.toList) = true := beq_iff_eq.mpr c6
            have c6b1 : ((rdOf ByteArray.empty l0 x5_1).toList != t311.toList) = false := bne_eq_false_iff_eq.mpr c6
            clear c6
            have H' := Aside0.mk H
            clear H
            try go_wp2
            have n0_ := Aside0.mk (below_drew1 HB.out)
            clear HB
            have HB := n0_
            clear n0_
            have p310 : 0 ≤ (x5_1 : Int) := of_decide_eq_true (by first | (with_reducible assumption) | assumption)
            have q310 : x5_1 < (l0.length : Int) := of_decide_eq_true (by first | (with_reducible assumption) | assumption)
            obtain ⟨ad310, e310, hx310_0⟩ := Kd.at_string HR0.out x5_1 p310 q310
            have hw310_0 := hx310_0
            cases e310
            replace hx310_0 := (HB.out.cell (World.block_lt_of_cell? w _ hx310_0)).trans hx310_0
            replace p310 := eq_true p310
            replace q310 := eq_true q310
            refine start_ (n := 7) (S := fun w' => w'.cell? (ad310.add (x5_1).toNat) = some (.string (rdOf ByteArray.empty l0 x5_1))) (ds := []) #[false, false, false, false, false, false, false] (by kernel_rfl) rfl rfl (((HB.out.cell (World.block_lt_of_cell? w _ hw310_0)).trans hw310_0)) (fun hHeld => ?_)
            generalize wr.drew = w7 at HB hx310_0 hHeld ⊢
            refine pure_ (i := 0) (N := some 12) (v := ?_) (a' := ?_) #[true, false, false, false, false, false, false] rfl rfl (by kernel_rfl) (fun _ _ _ h => h) (Or.inl ⟨by rfl, ?_⟩) ?_ ?_
            rotate_left
            · intro w'
              go_simp
              with_reducible rfl
            rotate_left
            · simp only [Act.put, List.setIfInBounds_toArray, List.set_cons_zero, List.set_cons_succ, i64_w, i32_w]
              rfl
            refine pure_ (i := 1) (N := some 13) (v := ?_) (a' := ?_) #[true, true, false, false, false, false, false] rfl rfl (by kernel_rfl) (fun _ _ _ h => h) (Or.inl ⟨by rfl, ?_⟩) ?_ ?_
            rotate_left
            · intro w'
              go_simp
              with_reducible rfl
            rotate_left
            · simp only [Act.put, List.setIfInBounds_toArray, List.set_cons_zero, List.set_cons_succ, i64_w, i32_w]
              rfl
            refine pure_ (i := 2) (N := some 14) (v := ?_) (a' := ?_) #[true, true, true, false, false, false, false] rfl rfl (by kernel_rfl) (fun _ _ _ h => h) (Or.inl ⟨by rfl, ?_⟩) ?_ ?_
            rotate_left
            · intro w'
              go_simp
              with_reducible rfl
            rotate_left
            · simp only [Act.put, List.setIfInBounds_toArray, List.set_cons_zero, List.set_cons_succ, i64_w, i32_w]
              rfl
            refine pure_ (i := 4) (N := some 16) (v := ?_) (a' := ?_) #[true, true, true, false, true, false, false] rfl rfl (by kernel_rfl) (fun _ _ _ h => h) (Or.inl ⟨by rfl, ?_⟩) ?_ ?_
            rotate_left
            · intro w'
              go_simp
              with_reducible rfl
            rotate_left
            · simp only [Act.put, List.setIfInBounds_toArray, List.set_cons_zero, List.set_cons_succ, i64_w, i32_w]
              rfl
            refine take_ (i := 3) (N := some 15) (v := ?_) (a' := ?_) #[true, true, true, true, true, false, false] rfl rfl (by kernel_rfl) (fun _ _ _ h => h) (Or.inl ⟨by rfl, ?_⟩) hHeld ?_ ?_
            rotate_left
            · intro w' s0
              go_simp
              with_reducible rfl
            rotate_left
            · simp only [Act.put, List.setIfInBounds_toArray, List.set_cons_zero, List.set_cons_succ, i64_w, i32_w]
              rfl
            refine one_ (i := 5) (N := some 17) #[true, true, true, true, true, true, false] rfl rfl (by kernel_rfl) (by decide) (fun K hK => ?_)
            refine goes_ Try.func77 (by kernel_rfl) rfl #[.int .i64 x1_1] (by rfl) rfl rfl (by (try simp only [List.map_toArray, List.map_cons, List.map_nil]); first | done | rfl | (simp only [List.length_drop, List.length_take]; rfl)) ?_
            with_reducible refine (laws_markText.calls k1 x1_1 t311 _ A5.out).mono ?_
            rintro e w8 ⟨rfl, hb⟩
            refine ⟨_, rfl, ?_⟩
            have n0_ := Aside0.mk (below_step (by repeat (first | (with_reducible first | exact HB.out | apply below_alloc | apply pw_below_drewN | apply below_drew1) | exact HB.out)) hb)
            clear HB
            have HB := n0_
            clear n0_
            (try clear hb)
            (try clear hb2)
            (try clear hk)
            (try clear hi)
            refine hK.out _ _ (((HB.out.cell (World.block_lt_of_cell? w _ hw310_0)).trans hw310_0)) (fun hHeld => ?_)
            clear hK K
            refine norm_ (a' := ?_) ?_ ?_
            rotate_left
            · show Act.put _ (some 17) _ = _
              simp only [Act.put, List.setIfInBounds_toArray, List.set_cons_zero, List.set_cons_succ, i64_w, i32_w]
              rfl
            refine pure_ (i := 6) (N := some 18) (v := ?_) (a' := ?_) #[true, true, true, true, true, true, true] rfl rfl (by kernel_rfl) (fun _ _ _ h => h) (Or.inl ⟨by rfl, ?_⟩) ?_ ?_
            rotate_left
            · intro w'
              go_simp
              with_reducible rfl
            rotate_left
            · simp only [Act.put, List.setIfInBounds_toArray, List.set_cons_zero, List.set_cons_succ, i64_w, i32_w]
              rfl
            refine done_ (by kernel_rfl) ?_
            try go_wp2
            go_roundg k1
            case measure => have := HK1.out; omega
            case rel => exact ⟨(wrap64 (x1_1 + 1)), (wrap64 (x5_1 + 1)), (by first | rfl | (simp; done) | (simp [*]; done)), (by first | rfl | (simp; done) | (simp [*]; done)), H', ⟨by have := HK1.out; omega⟩, ⟨by repeat (first | (with_reducible first | exact HB.out | apply below_alloc | apply pw_below_drewN | apply below_drew1) | exact HB.out)⟩⟩
          · rw [if_neg c6] at H
            have c6b0 : ((rdOf ByteArray.empty l0 x5_1).toList == t311.toList) = false := beq_eq_false_iff_ne.mpr c6
            have c6b1 : ((rdOf ByteArray.empty l0 x5_1).toList != t311.toList) = true := bne_iff_ne.mpr c6
            obtain rfl := Option.some.inj H
            try go_wp2
            have n0_ := Aside0.mk (below_drew1 HB.out)
            clear HB
            have HB := n0_
            clear n0_
            have p310 : 0 ≤ (x5_1 : Int) := of_decide_eq_true (by first | (with_reducible assumption) | assumption)
            have q310 : x5_1 < (l0.length : Int) := of_decide_eq_true (by first | (with_reducible assumption) | assumption)
            obtain ⟨ad310, e310, hx310_0⟩ := Kd.at_string HR0.out x5_1 p310 q310
            have hw310_0 := hx310_0
            cases e310
            replace hx310_0 := (HB.out.cell (World.block_lt_of_cell? w _ hx310_0)).trans hx310_0
            replace p310 := eq_true p310
            replace q310 := eq_true q310
            refine start_ (n := 7) (S := fun w' => w'.cell? (ad310.add (x5_1).toNat) = some (.string (rdOf ByteArray.empty l0 x5_1))) (ds := []) #[false, false, false, false, false, false, false] (by kernel_rfl) rfl rfl (((HB.out.cell (World.block_lt_of_cell? w _ hw310_0)).trans hw310_0)) (fun hHeld => ?_)
            generalize wr.drew = w9 at HB hx310_0 hHeld ⊢
            refine pure_ (i := 0) (N := some 12) (v := ?_) (a' := ?_) #[true, false, false, false, false, false, false] rfl rfl (by kernel_rfl) (fun _ _ _ h => h) (Or.inl ⟨by rfl, ?_⟩) ?_ ?_
            rotate_left
            · intro w'
              go_simp
              with_reducible rfl
            rotate_left
            · simp only [Act.put, List.setIfInBounds_toArray, List.set_cons_zero, List.set_cons_succ, i64_w, i32_w]
              rfl
            refine pure_ (i := 1) (N := some 13) (v := ?_) (a' := ?_) #[true, true, false, false, false, false, false] rfl rfl (by kernel_rfl) (fun _ _ _ h => h) (Or.inl ⟨by rfl, ?_⟩) ?_ ?_
            rotate_left
            · intro w'
              go_simp
              with_reducible rfl
            rotate_left
            · simp only [Act.put, List.setIfInBounds_toArray, List.set_cons_zero, List.set_cons_succ, i64_w, i32_w]
              rfl
            refine pure_ (i := 2) (N := some 14) (v := ?_) (a' := ?_) #[true, true, true, false, false, false, false] rfl rfl (by kernel_rfl) (fun _ _ _ h => h) (Or.inl ⟨by rfl, ?_⟩) ?_ ?_
            rotate_left
            · intro w'
              go_simp
              with_reducible rfl
            rotate_left
            · simp only [Act.put, List.setIfInBounds_toArray, List.set_cons_zero, List.set_cons_succ, i64_w, i32_w]
              rfl
            refine pure_ (i := 4) (N := some 16) (v := ?_) (a' := ?_) #[true, true, true, false, true, false, false] rfl rfl (by kernel_rfl) (fun _ _ _ h => h) (Or.inl ⟨by rfl, ?_⟩) ?_ ?_
            rotate_left
            · intro w'
              go_simp
              with_reducible rfl
            rotate_left
            · simp only [Act.put, List.setIfInBounds_toArray, List.set_cons_zero, List.set_cons_succ, i64_w, i32_w]
              rfl
            refine take_ (i := 3) (N := some 15) (v := ?_) (a' := ?_) #[true, true, true, true, true, false, false] rfl rfl (by kernel_rfl) (fun _ _ _ h => h) (Or.inl ⟨by rfl, ?_⟩) hHeld ?_ ?_
            rotate_left
            · intro w' s0
              go_simp
              with_reducible rfl
            rotate_left
            · simp only [Act.put, List.setIfInBounds_toArray, List.set_cons_zero, List.set_cons_succ, i64_w, i32_w]
              rfl
            refine one_ (i := 5) (N := some 17) #[true, true, true, true, true, true, false] rfl rfl (by kernel_rfl) (by decide) (fun K hK => ?_)
            refine goes_ Try.func77 (by kernel_rfl) rfl #[.int .i64 x1_1] (by rfl) rfl rfl (by (try simp only [List.map_toArray, List.map_cons, List.map_nil]); first | done | rfl | (simp only [List.length_drop, List.length_take]; rfl)) ?_
            with_reducible refine (laws_markText.calls k1 x1_1 t311 _ A5.out).mono ?_
            rintro e w10 ⟨rfl, hb⟩
            refine ⟨_, rfl, ?_⟩
            have n0_ := Aside0.mk (below_step (by repeat (first | (with_reducible first | exact HB.out | apply below_alloc | apply pw_below_drewN | apply below_drew1) | exact HB.out)) hb)
            clear HB
            have HB := n0_
            clear n0_
            (try clear hb)
            (try clear hb2)
            (try clear hk)
            (try clear hi)
            refine hK.out _ _ (((HB.out.cell (World.block_lt_of_cell? w _ hw310_0)).trans hw310_0)) (fun hHeld => ?_)
            clear hK K
            refine norm_ (a' := ?_) ?_ ?_
            rotate_left
            · show Act.put _ (some 17) _ = _
              simp only [Act.put, List.setIfInBounds_toArray, List.set_cons_zero, List.set_cons_succ, i64_w, i32_w]
              rfl
            refine pure_ (i := 6) (N := some 18) (v := ?_) (a' := ?_) #[true, true, true, true, true, true, true] rfl rfl (by kernel_rfl) (fun _ _ _ h => h) (Or.inl ⟨by rfl, ?_⟩) ?_ ?_
            rotate_left
            · intro w'
              go_simp
              with_reducible rfl
            rotate_left
            · simp only [Act.put, List.setIfInBounds_toArray, List.set_cons_zero, List.set_cons_succ, i64_w, i32_w]
              rfl
            refine done_ (by kernel_rfl) ?_
            try go_wp2
            go_ret
            exact ⟨by first | rfl | (simp [errW_none, errW_some] <;> rfl) | (simp [*, errW_none, errW_some] <;> rfl), by repeat (first | (with_reducible first | exact HB.out | apply below_alloc | apply pw_below_drewN | apply below_drew1) | exact HB.out)⟩
        · rw [if_neg c4] at H
          exact absurd H (by simp)
      · rw [if_neg c3] at H
        have c3b0 : decide (x5_1 < (l0.length : Int)) = false := decide_eq_false c3
        clear c3
        obtain rfl := Option.some.inj H
        go_wp2
        go_ret
        exact ⟨by first | rfl | (simp [errW_none, errW_some] <;> rfl) | (simp [*, errW_none, errW_some] <;> rfl), by repeat (first | (with_reducible first | exact HB.out | apply below_alloc | apply pw_below_drewN | apply below_drew1) | exact HB.out)⟩

end Go.Proofs.Ytbbbnedaeiddiaa.QFnExactRecordsIn
