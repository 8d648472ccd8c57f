/- The law FnExactLogRoll holds for every input, where the package's variables that the row lists hold what the program's text lays in them (the card ties that to the text): its row, from what is proved of the law in plain values. -/
import Derived.Test.YtboeojpjgncjoaaGreatDoorRows
import Derived.Test.YtboeojpjgncjoaaGreatDoorCards
import Derived.Test.YtboeojpjgncjoaaGreatDoorTie
import Derived.Test.YtboeojpjgncjoaaGreatDoorPvI0
import Derived.Test.YtboeojpjgncjoaaGreatDoorPvI1
import Derived.Test.YtboeojpjgncjoaaGreatDoorPvI2
import Derived.Test.YtboeojpjgncjoaaGreatDoorPvI3
import Derived.Test.YtboeojpjgncjoaaGreatDoorPvI4
import Derived.Test.YtboeojpjgncjoaaGreatDoorPvI5
import Derived.WalkKit
import Derived.ProofKit
import Derived.OpenShut
import Derived.ShutString
import Derived.ChangeOld
import Derived.Below
import Derived.SizedLaws
import Derived.Carry
import Derived.LaidMore
import Derived.Lib.LaidTab
import Derived.Stop.LaidErr
import Derived.MakeChecks
import Derived.SevenTiedAt
namespace Go.Proofs.YtboeojpjgncjoaaGreatDoor.fnExactLogRoll
open Go.ChangeShapes Go.WideShapes Go.ChangeAt Go.RowKit Go.Pv
open Go.ChangeMaps (open_string shut_string)
set_option linter.unusedVariables false
theorem own : ownKnob Tryz.prog.godebug = none := by kernel_rfl
theorem laidOut : laidOutB Tryz.prog = true := by kernel_rfl
/-- The world that the program's own start-up leaves has the variables as they are listed. -/
theorem door_met (os : Os) (args : Array Value) : laidMetH Tryz.prog Rows.fnExactLogRollRow.laid ((World.doorLaid Tryz.prog 62 os).forCall (fun _ _ => 0) ⟨#[], args, []⟩).memory :=
  laidMetH_of_parts3 (fuel := 8) (laidMet_of_run' 8 (by kernel_rfl) (by kernel_rfl)) (by kernel_rfl) (by kernel_rfl)
def tab3 : List Int := [0, 1, 56, 2, 57, 49, 28, 3, 61, 58, 42, 50, 38, 29, 17, 4, 62, 47, 59, 36, 45, 43, 51, 22, 53, 39, 33, 30, 24, 18, 12, 5, 63, 55, 48, 27, 60, 41, 37, 16, 46, 35, 44, 21, 52, 32, 23, 11, 54, 26, 40, 15, 34, 20, 31, 10, 25, 14, 19, 9, 13, 8, 7, 6]
def tab0 : List Int := [1, 10, 100, 1000, 10000, 100000, 1000000, 10000000, 100000000, 1000000000, 10000000000, 100000000000, 1000000000000, 10000000000000, 100000000000000, 1000000000000000, 10000000000000000, 100000000000000000, 1000000000000000000, 10000000000000000000]
/-- What the condition on the variables says of those that are read. -/
theorem glo_of {W : World} (h : laidMetH Tryz.prog Rows.fnExactLogRollRow.laid W) : Glo W No No := by
  rw [MakeChecks.laidMetH_plain _ _ _ (by kernel_rfl)] at h
  have gN3 : Tryz.prog.globalNamed "math/bits.deBruijn64tab" = some 3 := by kernel_rfl
  have h2_3 : Lib.TabIs Tryz.prog W "math/bits.deBruijn64tab" .u8 tab3 := Lib.tabIs_of_head (t := 190) (e := 5) (n := 64) gN3 (by kernel_rfl) Tryz.underlying190 Tryz.underlying5 (by kernel_rfl) (by kernel_rfl) (laidMet.tail h)
  unfold Lib.TabIs World.var? at h2_3
  rw [gN3] at h2_3
  simp only [Option.bind_some] at h2_3
  have gN0 : Tryz.prog.globalNamed "internal/strconv.uint64pow10" = some 0 := by kernel_rfl
  have h2_0 : Lib.TabIs Tryz.prog W "internal/strconv.uint64pow10" .u64 tab0 := Lib.tabIs_of_head (t := 176) (e := 154) (n := 20) gN0 (by kernel_rfl) Tryz.underlying176 Tryz.underlying154 (by kernel_rfl) (by kernel_rfl) (laidMet.tail (laidMet.tail h))
  unfold Lib.TabIs World.var? at h2_0
  rw [gN0] at h2_0
  simp only [Option.bind_some] at h2_0
  have gE4 : Tryz.prog.globalNamed "strconv.ErrSyntax" = some 4 := by kernel_rfl
  have rowP : ∀ u, Tryz.prog.typeName? 3 u = some "*errors.errorString" → u = 207 := by
    have star : "*" ++ "errors.errorString" = "*errors.errorString" := by decide
    exact fun u h => typeName_ptr_named (nm := "errors.errorString") (by rw [star]; kernel_rfl) (by kernel_rfl) (by decide) u (by rw [star]; exact h)
  obtain ⟨ae4, se4, hve4, _, _, _⟩ := laid_sentinel (laidMet.tail (laidMet.tail (laidMet.tail (laidMet.tail h)))) gE4 (ti := 132) (by kernel_rfl) Tryz.underlying132 rowP (te := 209) Tryz.underlying207 Tryz.underlying209 (ts := 9) rfl rfl Tryz.underlying9 (by kernel_rfl) (by kernel_rfl)
  unfold World.var? at hve4
  rw [gE4] at hve4
  simp only [Option.bind_some] at hve4
  have gE5 : Tryz.prog.globalNamed "strconv.ErrRange" = some 5 := by kernel_rfl
  obtain ⟨ae5, se5, hve5, _, _, _⟩ := laid_sentinel (laidMet.tail (laidMet.tail (laidMet.tail h))) gE5 (ti := 132) (by kernel_rfl) Tryz.underlying132 rowP (te := 209) Tryz.underlying207 Tryz.underlying209 (ts := 9) rfl rfl Tryz.underlying9 (by kernel_rfl) (by kernel_rfl)
  unfold World.var? at hve5
  rw [gE5] at hve5
  simp only [Option.bind_some] at hve5
  intro g cs hg
  have hgc : (g = 5 ∧ cs = glob5) ∨ (g = 4 ∧ cs = glob4) ∨ (g = 3 ∧ cs = glob3) ∨ (g = 0 ∧ cs = glob0) := by
    unfold GS at hg
    simp only [gget] at hg
    split at hg
    · rename_i e
      exact .inl ⟨e, (Option.some.inj hg).symm⟩
    ·
      split at hg
      · rename_i e
        exact .inr (.inl ⟨e, (Option.some.inj hg).symm⟩)
      ·
        split at hg
        · rename_i e
          exact .inr (.inr (.inl ⟨e, (Option.some.inj hg).symm⟩))
        ·
          split at hg
          · rename_i e
            exact .inr (.inr (.inr (⟨e, (Option.some.inj hg).symm⟩)))
          · cases hg
  rcases hgc with ⟨rfl, rfl⟩ | ⟨rfl, rfl⟩ | ⟨rfl, rfl⟩ | ⟨rfl, rfl⟩
  · refine ⟨fun h => h, fun h => h, ?_⟩
    split at hve5
    · rename_i c e fr hw
      refine ⟨c, e, fr, hw, by rw [Option.some.inj hve5]; rfl, fun j y hy => ?_⟩
      obtain rfl : c = #[.iface 207 (.pointer (some ae5))] := Option.some.inj hve5
      have e1 : glob5 = [PV.ifc 207] := rfl
      rw [e1] at hy
      match j, hy with
      | 0, hy =>
        obtain rfl := Option.some.inj hy
        exact ⟨Nat.zero_lt_one, fun w' A' => .ifc _ _⟩
      | j + 1, hy => cases hy
    · cases hve5
  · refine ⟨fun h => h, fun h => h, ?_⟩
    split at hve4
    · rename_i c e fr hw
      refine ⟨c, e, fr, hw, by rw [Option.some.inj hve4]; rfl, fun j y hy => ?_⟩
      obtain rfl : c = #[.iface 207 (.pointer (some ae4))] := Option.some.inj hve4
      have e1 : glob4 = [PV.ifc 207] := rfl
      rw [e1] at hy
      match j, hy with
      | 0, hy =>
        obtain rfl := Option.some.inj hy
        exact ⟨Nat.zero_lt_one, fun w' A' => .ifc _ _⟩
      | j + 1, hy => cases hy
    · cases hve4
  · refine ⟨fun h => h, fun h => h, ?_⟩
    split at h2_3
    · rename_i c e fr hw
      refine ⟨c, e, fr, hw, by rw [Option.some.inj h2_3]; rfl, fun j y hy => ?_⟩
      obtain rfl : c = (tab3.map fun z => Value.int .u8 z).toArray := Option.some.inj h2_3
      have e1 : glob3 = tab3.map (PV.int .u8) := rfl
      rw [e1, List.getElem?_map] at hy
      obtain ⟨z, hz, rfl⟩ := Option.map_eq_some_iff.1 hy
      have hj := (List.getElem?_eq_some_iff.1 hz).1
      refine ⟨by simpa using hj, fun w' A' => ?_⟩
      have e2 : (tab3.map fun z => Value.int .u8 z).toArray.getD j undef = .int .u8 z := by
        rw [Array.getD_eq_getD_getElem?, List.getElem?_toArray, List.getElem?_map, hz]; rfl
      rw [e2]
      exact .int _ _
    · cases h2_3
  · refine ⟨fun h => h, fun h => h, ?_⟩
    split at h2_0
    · rename_i c e fr hw
      refine ⟨c, e, fr, hw, by rw [Option.some.inj h2_0]; rfl, fun j y hy => ?_⟩
      obtain rfl : c = (tab0.map fun z => Value.int .u64 z).toArray := Option.some.inj h2_0
      have e1 : glob0 = tab0.map (PV.int .u64) := rfl
      rw [e1, List.getElem?_map] at hy
      obtain ⟨z, hz, rfl⟩ := Option.map_eq_some_iff.1 hy
      have hj := (List.getElem?_eq_some_iff.1 hz).1
      refine ⟨by simpa using hj, fun w' A' => ?_⟩
      have e2 : (tab0.map fun z => Value.int .u64 z).toArray.getD j undef = .int .u64 z := by
        rw [Array.getD_eq_getD_getElem?, List.getElem?_toArray, List.getElem?_map, hz]; rfl
      rw [e2]
      exact .int _ _
    · cases h2_0
set_option maxRecDepth 100000 in
theorem lifted (os : Os) (started : os.Started) (H : Type) (enc : TypeId × Value → H) :
    ReturnsInHanded {} Tryz.checked os 3 .any (fun w args => (Rows.fnExactLogRollSpec.pre enc Tryz.prog Tryz.f3 [] false w args ∧ laidMetH Tryz.prog Rows.fnExactLogRollRow.laid w) ∧ sizedMet enc Tryz.prog Tryz.f3 (OpenSpec.ofChange Rows.fnExactLogRollSpec) false w args)
      (Rows.fnExactLogRollSpec.post enc Tryz.prog Tryz.f3 false true false false) := by
  refine returnsInHanded_of_change_and (C := Tryz.checked) (X := fun w _ => laidMetH Tryz.prog Rows.fnExactLogRollRow.laid w) (fun _ _ _ hh h => h.of_heap hh) own started (by kernel_rfl) Tryz.func3
    (ChangeSpec.witness_shaped (enc := enc) (C := Tryz.checked) (os := os) (X := fun w _ => laidMetH Tryz.prog Rows.fnExactLogRollRow.laid w) false (World.doorLaid Tryz.prog 62 os) #[.agg #[.slice none 0 0, .slice none 0 0, .slice none 0 0, .slice none 0 0, .int .i64 0, .int .i64 0], .agg #[.int .i64 0, .int .i64 0, .int .i64 0, .int .i64 0, .int .i64 0, .slice none 0 0, .int .i64 0, .bool false, .int .i64 0]] 8 rfl (World.shaped_of_RefB (by kernel_rfl) (by kernel_rfl)) (by kernel_rfl) (by kernel_rfl) (by kernel_rfl) (door_met os _)) ?_
  intro W base args ds gs before hval0 hW hcnd hsz0 hL _
  have hsz : (DataW.weightsEach Tryz.prog (Tryz.f3.params.toList ++ Rows.fnExactLogRollSpec.plain.varTypes Tryz.prog) (ds ++ gs)).all (· ≤ reachBytes) = true := hsz0
  have hval : ∀ (j : Nat) t v, Tryz.f3.params[j]? = some t → args[j]? = some v → Value.okWide Tryz.prog W .any base t v := hval0
  have hW' := hW
  obtain ⟨p, q, hA0, hV, rfl, hfz, hnd⟩ := hW
  have hA : DataW.TrodAll enc Tryz.prog W 0 (fun _ => true) true Tryz.f3.params.toList args.toList ds p := hA0
  rw [Tryz.params3] at hA hval hsz
  obtain ⟨v0, vs0, d0, ds0, p0, q0, hargs, rfl, rfl, h0, r0⟩ := trodAll_cons hA
  obtain ⟨v1, vs1, d1, ds1, p1, q1, rfl, rfl, rfl, h1, r1⟩ := trodAll_cons r0
  obtain ⟨rfl, rfl, rfl⟩ := trodAll_nil r1
  obtain rfl : args = #[v0, v1] := by cases args; simp_all
  obtain ⟨rfl, rfl⟩ := trodVars_none hV
  have k0 := h0
  have lt0 : ∀ x ∈ p0, x.block < W.heap.size := by obtain ⟨m, hm⟩ := k0; exact DataW.trod_lt m _ _ _ hm
  obtain ⟨a0, w0, y0⟩ := arg_struct Tryz.underlying26 (opn_struct Tryz.underlying26 rfl (n := 6) (by kernel_rfl) rfl (opnf_cons (by kernel_rfl) rfl (fun _ => rfl) (opn_slice Tryz.underlying22 (k := 3) (by kernel_rfl) (by decide) (opn_struct Tryz.underlying76 rfl (n := 3) (by kernel_rfl) rfl (opnf_cons (by kernel_rfl) rfl (fun _ => rfl) (opn_i64 Tryz.underlying3) (opnf_cons (by kernel_rfl) rfl (fun _ => rfl) (opn_str Tryz.underlying9) (opnf_one (by kernel_rfl) rfl (fun _ => rfl) (opn_i64 Tryz.underlying3)))))) (opnf_cons (by kernel_rfl) rfl (fun _ => rfl) (opn_slice Tryz.underlying23 (k := 2) (by kernel_rfl) (by decide) (opn_struct Tryz.underlying79 rfl (n := 2) (by kernel_rfl) rfl (opnf_cons (by kernel_rfl) rfl (fun _ => rfl) (opn_str Tryz.underlying9) (opnf_one (by kernel_rfl) rfl (fun _ => rfl) (opn_i64 Tryz.underlying3))))) (opnf_cons (by kernel_rfl) rfl (fun _ => rfl) (opn_slice Tryz.underlying23 (k := 2) (by kernel_rfl) (by decide) (opn_struct Tryz.underlying79 rfl (n := 2) (by kernel_rfl) rfl (opnf_cons (by kernel_rfl) rfl (fun _ => rfl) (opn_str Tryz.underlying9) (opnf_one (by kernel_rfl) rfl (fun _ => rfl) (opn_i64 Tryz.underlying3))))) (opnf_cons (by kernel_rfl) rfl (fun _ => rfl) (opn_slice Tryz.underlying24 (k := 1) (by kernel_rfl) (by decide) (opn_str Tryz.underlying9)) (opnf_cons (by kernel_rfl) rfl (fun _ => rfl) (opn_i64 Tryz.underlying3) (opnf_one (by kernel_rfl) rfl (fun _ => rfl) (opn_i64 Tryz.underlying3)))))))) (hval 0 26 v0 rfl rfl) h0
  have k1 := h1
  have lt1 : ∀ x ∈ p1, x.block < W.heap.size := by obtain ⟨m, hm⟩ := k1; exact DataW.trod_lt m _ _ _ hm
  obtain ⟨a1, w1, y1⟩ := arg_struct Tryz.underlying29 (opn_struct Tryz.underlying29 rfl (n := 9) (by kernel_rfl) rfl (opnf_cons (by kernel_rfl) rfl (fun _ => rfl) (opn_i64 Tryz.underlying3) (opnf_cons (by kernel_rfl) rfl (fun _ => rfl) (opn_i64 Tryz.underlying3) (opnf_cons (by kernel_rfl) rfl (fun _ => rfl) (opn_i64 Tryz.underlying3) (opnf_cons (by kernel_rfl) rfl (fun _ => rfl) (opn_i64 Tryz.underlying3) (opnf_cons (by kernel_rfl) rfl (fun _ => rfl) (opn_i64 Tryz.underlying3) (opnf_cons (by kernel_rfl) rfl (fun _ => rfl) (opn_slice Tryz.underlying27 (k := 1) (by kernel_rfl) (by decide) (opn_i64 Tryz.underlying3)) (opnf_cons (by kernel_rfl) rfl (fun _ => rfl) (opn_i64 Tryz.underlying3) (opnf_cons (by kernel_rfl) rfl (fun _ => rfl) (opn_bool Tryz.underlying4) (opnf_one (by kernel_rfl) rfl (fun _ => rfl) (opn_i64 Tryz.underlying3))))))))))) (hval 1 29 v1 rfl rfl) h1
  clear hA0 hval0 hsz0 hsz
  refine (Fn.law (law_FnExactLogRoll a0 a1 w0 w1) (glo_of hL) (lay_cons (y0) (lay_cons (y1) lay_nil))).mono fun e W' ⟨he, bel⟩ => ?_
  subst he
  exact ⟨_, rfl, _, _, _, [], _, [], hW', trodAll_mk1 (shut_bool Tryz.underlying4 _), (trodAll_cons_mk (Below.trod laidOut (by kernel_rfl) (of_decide_eq_true (by kernel_rfl)) k0 bel lt0) (trodAll_cons_mk (Below.trod laidOut (by kernel_rfl) (of_decide_eq_true (by kernel_rfl)) k1 bel lt1) trodAll_mk0)), rfl, bel.frame _, fun h => by cases h⟩
theorem fact0 : (Rows.fnExactLogRollRow.inPlace == Tryz.prog.inPlace 3) = true := by kernel_rfl
theorem fact1 : (Rows.fnExactLogRollRow.unfollowed == Tryz.prog.unfollowed 3) = true := by kernel_rfl
theorem fact2 : (Rows.fnExactLogRollRow.recurses == Tryz.prog.recurses 3) = true := by kernel_rfl
theorem fact3 : (Rows.fnExactLogRollRow.named == Tryz.prog.varsNamed 3) = true := by kernel_rfl
theorem joined : joinedFacts Tryz.prog 3 Tryz.f3 Rows.fnExactLogRollSpec Rows.fnExactLogRollRow = true := by
  unfold joinedFacts
  rw [fact0, fact1, fact2, fact3]
  kernel_rfl
theorem over : Rows.fnExactLogRollRow.holds Tryz.pinned (OpenSpec.ofChange Rows.fnExactLogRollSpec) :=
  OpenClaim.holds_of_wide 3 Tryz.f3 rfl rfl rfl rfl rfl rfl rfl ⟨rfl, rfl, rfl, rfl, rfl⟩ rfl rfl rfl rfl rfl (by kernel_rfl) Tryz.func3 joined
    (of_decide_eq_true (by kernel_rfl)) (by unfold Func.isWrapper; first | (rw [if_pos (by decide +kernel)]; kernel_rfl) | (rw [if_neg (by decide +kernel)]; exact ⟨rfl, rfl⟩))
    (fun os started H enc _ => lifted os started H enc)
end Go.Proofs.YtboeojpjgncjoaaGreatDoor.fnExactLogRoll
namespace Go.Proofs.YtboeojpjgncjoaaGreatDoor
/-- The card: the row, its listed variables tied to the program's text. -/
theorem fnExactLogRoll_holds : Rows.FnExactLogRollCardSaid :=
  Claim7.holds_tied_plain_at .later [] [.data, .data, .data, .sentinel, .sentinel] true (true, "357de7870fa8a59a4834a2b84f5edb15ebc2fdf983dafc6f0ce9139143cd0025") true
    fnExactLogRoll.over (fun _ h => by cases h) (by kernel_rfl) (fun _ h => by cases h) fnExactLogRoll_row_tie rfl ⟨rfl, rfl⟩ (by kernel_rfl) rfl
    (fun f fn hf hfn => by
      obtain rfl : f = 3 := Option.some.inj ((show Tryz.prog.funcNamed "loop.example/g00971/laws.FnExactLogRoll" = some 3 by kernel_rfl).symm.trans hf) |>.symm
      obtain rfl : fn = Tryz.f3 := (Option.some.inj (Tryz.func3.symm.trans hfn)).symm
      exact ⟨by kernel_rfl, fun j t ht => by
        rw [Tryz.params3] at ht
        have hm : t ∈ [26, 29] := by simpa using Array.mem_of_getElem? ht
        have hall : ([26, 29].all fun u => !Tryz.prog.wantsStandIn u) = true := by kernel_rfl
        exact (show Tryz.prog.wantsStandIn t = false by simpa using List.all_eq_true.1 hall t hm)⟩)
    (by kernel_rfl)
#print axioms fnExactLogRoll_holds
end Go.Proofs.YtboeojpjgncjoaaGreatDoor
