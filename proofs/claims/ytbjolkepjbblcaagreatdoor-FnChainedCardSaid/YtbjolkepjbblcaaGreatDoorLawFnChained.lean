/- The law FnChained holds for every input, where the package's variables that the row lists hold what the program's text lays in them (the card ties that to the text): its row, from what is proved of the law in plain values. -/
import Derived.Test.YtbjolkepjbblcaaGreatDoorRows
import Derived.Test.YtbjolkepjbblcaaGreatDoorCards
import Derived.Test.YtbjolkepjbblcaaGreatDoorTie
import Derived.Test.YtbjolkepjbblcaaGreatDoorPvG0
import Derived.Test.YtbjolkepjbblcaaGreatDoorPvG1
import Derived.Test.YtbjolkepjbblcaaGreatDoorPvG2
import Derived.Test.YtbjolkepjbblcaaGreatDoorPvG3
import Derived.Test.YtbjolkepjbblcaaGreatDoorPvG4
import Derived.WalkKit
import Derived.ProofKit
import Derived.OpenShut
import Derived.ShutString
import Derived.ChangeOld
import Derived.Below
import Derived.SizedLaws
import Derived.Carry
import Derived.LaidMore
import Derived.Lib.LaidTab
import Derived.Stop.LaidErr
import Derived.MakeChecks
import Derived.SevenTiedAt
namespace Go.Proofs.YtbjolkepjbblcaaGreatDoor.fnChained
open Go.ChangeShapes Go.WideShapes Go.ChangeAt Go.RowKit Go.Pv
open Go.ChangeMaps (open_string shut_string)
set_option linter.unusedVariables false
theorem own : ownKnob Tryz.prog.godebug = none := by kernel_rfl
theorem laidOut : laidOutB Tryz.prog = true := by kernel_rfl
/-- The world that the program's own start-up leaves has the variables as they are listed. -/
theorem door_met (os : Os) (args : Array Value) : laidMetH Tryz.prog Rows.fnChainedRow.laid ((World.doorLaid Tryz.prog 62 os).forCall (fun _ _ => 0) ⟨#[], args, []⟩).memory :=
  laidMetH_of_parts3 (fuel := 8) (laidMet_of_run' 8 (by kernel_rfl) (by kernel_rfl)) (by kernel_rfl) (by kernel_rfl)
def tab5 : List Int := [0, 1, 56, 2, 57, 49, 28, 3, 61, 58, 42, 50, 38, 29, 17, 4, 62, 47, 59, 36, 45, 43, 51, 22, 53, 39, 33, 30, 24, 18, 12, 5, 63, 55, 48, 27, 60, 41, 37, 16, 46, 35, 44, 21, 52, 32, 23, 11, 54, 26, 40, 15, 34, 20, 31, 10, 25, 14, 19, 9, 13, 8, 7, 6]
/-- What the condition on the variables says of those that are read. -/
theorem glo_of {W : World} (h : laidMetH Tryz.prog Rows.fnChainedRow.laid W) : Glo W No No := by
  rw [MakeChecks.laidMetH_plain _ _ _ (by kernel_rfl)] at h
  have gN5 : Tryz.prog.globalNamed "math/bits.deBruijn64tab" = some 5 := by kernel_rfl
  have h2_5 : Lib.TabIs Tryz.prog W "math/bits.deBruijn64tab" .u8 tab5 := Lib.tabIs_of_head (t := 247) (e := 5) (n := 64) gN5 (by kernel_rfl) Tryz.underlying247 Tryz.underlying5 (by kernel_rfl) (by kernel_rfl) (laidMet.tail h)
  unfold Lib.TabIs World.var? at h2_5
  rw [gN5] at h2_5
  simp only [Option.bind_some] at h2_5
  intro g cs hg
  have hgc : (g = 5 ∧ cs = glob5) := by
    unfold GS at hg
    simp only [gget] at hg
    split at hg
    · rename_i e
      exact ⟨e, (Option.some.inj hg).symm⟩
    · cases hg
  rcases hgc with ⟨rfl, rfl⟩
  · refine ⟨fun h => h, fun h => h, ?_⟩
    split at h2_5
    · rename_i c e fr hw
      refine ⟨c, e, fr, hw, fun j y hy => ?_⟩
      obtain rfl : c = (tab5.map fun z => Value.int .u8 z).toArray := Option.some.inj h2_5
      have e1 : glob5 = tab5.map (PV.int .u8) := rfl
      rw [e1, List.getElem?_map] at hy
      obtain ⟨z, hz, rfl⟩ := Option.map_eq_some_iff.1 hy
      have hj := (List.getElem?_eq_some_iff.1 hz).1
      refine ⟨by simpa using hj, fun w' A' => ?_⟩
      have e2 : (tab5.map fun z => Value.int .u8 z).toArray.getD j undef = .int .u8 z := by
        rw [Array.getD_eq_getD_getElem?, List.getElem?_toArray, List.getElem?_map, hz]; rfl
      rw [e2]
      exact .int _ _
    · cases h2_5
set_option maxRecDepth 100000 in
theorem lifted (os : Os) (started : os.Started) (H : Type) (enc : TypeId × Value → H) :
    ReturnsInHanded {} Tryz.checked os 6 .any (fun w args => (Rows.fnChainedSpec.pre enc Tryz.prog Tryz.f6 [] false w args ∧ laidMetH Tryz.prog Rows.fnChainedRow.laid w) ∧ sizedMet enc Tryz.prog Tryz.f6 (OpenSpec.ofChange Rows.fnChainedSpec) false w args)
      (Rows.fnChainedSpec.post enc Tryz.prog Tryz.f6 false true false false) := by
  refine returnsInHanded_of_change_and (C := Tryz.checked) (X := fun w _ => laidMetH Tryz.prog Rows.fnChainedRow.laid w) (fun _ _ _ hh h => h.of_heap hh) own started (by kernel_rfl) Tryz.func6
    (ChangeSpec.witness_shaped (enc := enc) (C := Tryz.checked) (os := os) (X := fun w _ => laidMetH Tryz.prog Rows.fnChainedRow.laid w) false (World.doorLaid Tryz.prog 62 os) #[.slice none 0 0] 8 rfl (World.shaped_of_RefB (by kernel_rfl) (by kernel_rfl)) (by kernel_rfl) (by kernel_rfl) (by kernel_rfl) (door_met os _)) ?_
  intro W base args ds gs before hval0 hW hcnd hsz0 hL _
  have hsz : (DataW.weightsEach Tryz.prog (Tryz.f6.params.toList ++ Rows.fnChainedSpec.plain.varTypes Tryz.prog) (ds ++ gs)).all (· ≤ reachBytes) = true := hsz0
  have hval : ∀ (j : Nat) t v, Tryz.f6.params[j]? = some t → args[j]? = some v → Value.okWide Tryz.prog W .any base t v := hval0
  have hW' := hW
  obtain ⟨p, q, hA0, hV, rfl, hfz, hnd⟩ := hW
  have hA : DataW.TrodAll enc Tryz.prog W 0 (fun _ => true) true Tryz.f6.params.toList args.toList ds p := hA0
  rw [Tryz.params6] at hA hval hsz
  obtain ⟨v0, vs0, d0, ds0, p0, q0, hargs, rfl, rfl, h0, r0⟩ := trodAll_cons hA
  obtain ⟨rfl, rfl, rfl⟩ := trodAll_nil r0
  obtain rfl : args = #[v0] := by cases args; simp_all
  obtain ⟨rfl, rfl⟩ := trodVars_none hV
  have k0 := h0
  have lt0 : ∀ x ∈ p0, x.block < W.heap.size := by obtain ⟨m, hm⟩ := k0; exact DataW.trod_lt m _ _ _ hm
  obtain ⟨a0, w0, y0⟩ := arg_slice Tryz.underlying48 (opn_slice Tryz.underlying48 (k := 1) (by kernel_rfl) (by decide) (opn_int Tryz.underlying5)) (hval 0 48 v0 rfl rfl) h0
  clear hA0 hval0 hsz0 hsz
  refine (Fn.law (law_FnChained a0 w0) (glo_of hL) (lay_cons (y0) lay_nil)).mono fun e W' ⟨he, bel⟩ => ?_
  subst he
  exact ⟨_, rfl, _, _, _, [], _, [], hW', trodAll_mk1 (shut_bool Tryz.underlying4 _), (trodAll_cons_mk (Below.trod laidOut (by kernel_rfl) (of_decide_eq_true (by kernel_rfl)) k0 bel lt0) trodAll_mk0), rfl, bel.frame _, fun h => by cases h⟩
theorem fact0 : (Rows.fnChainedRow.inPlace == Tryz.prog.inPlace 6) = true := by kernel_rfl
theorem fact1 : (Rows.fnChainedRow.unfollowed == Tryz.prog.unfollowed 6) = true := by kernel_rfl
theorem fact2 : (Rows.fnChainedRow.recurses == Tryz.prog.recurses 6) = true := by kernel_rfl
theorem fact3 : (Rows.fnChainedRow.named == Tryz.prog.varsNamed 6) = true := by kernel_rfl
theorem joined : joinedFacts Tryz.prog 6 Tryz.f6 Rows.fnChainedSpec Rows.fnChainedRow = true := by
  unfold joinedFacts
  rw [fact0, fact1, fact2, fact3]
  kernel_rfl
theorem over : Rows.fnChainedRow.holds Tryz.pinned (OpenSpec.ofChange Rows.fnChainedSpec) :=
  OpenClaim.holds_of_wide 6 Tryz.f6 rfl rfl rfl rfl rfl rfl rfl ⟨rfl, rfl, rfl, rfl, rfl⟩ rfl rfl rfl rfl rfl (by kernel_rfl) Tryz.func6 joined
    (of_decide_eq_true (by kernel_rfl)) (by unfold Func.isWrapper; first | (rw [if_pos (by decide +kernel)]; kernel_rfl) | (rw [if_neg (by decide +kernel)]; exact ⟨rfl, rfl⟩))
    (fun os started H enc _ => lifted os started H enc)
end Go.Proofs.YtbjolkepjbblcaaGreatDoor.fnChained
namespace Go.Proofs.YtbjolkepjbblcaaGreatDoor
/-- The card: the row, its listed variables tied to the program's text. -/
theorem fnChained_holds : Rows.FnChainedCardSaid :=
  Claim7.holds_tied_plain_at .later [] [.data, .data, .data] true (true, "17b7f88c289c53a7006463fa366d55622fa3641d64035e220098b326dfc89e41") true
    fnChained.over (fun _ h => by cases h) (by kernel_rfl) (fun _ h => by cases h) fnChained_row_tie rfl ⟨rfl, rfl⟩ (by kernel_rfl) rfl
    (fun f fn hf hfn => by
      obtain rfl : f = 6 := Option.some.inj ((show Tryz.prog.funcNamed "loop.example/g00971/laws.FnChained" = some 6 by kernel_rfl).symm.trans hf) |>.symm
      obtain rfl : fn = Tryz.f6 := (Option.some.inj (Tryz.func6.symm.trans hfn)).symm
      exact ⟨by kernel_rfl, fun j t ht => by
        rw [Tryz.params6] at ht
        have hm : t ∈ [48] := by simpa using Array.mem_of_getElem? ht
        have hall : ([48].all fun u => !Tryz.prog.wantsStandIn u) = true := by kernel_rfl
        exact (show Tryz.prog.wantsStandIn t = false by simpa using List.all_eq_true.1 hall t hm)⟩)
    (by kernel_rfl)
#print axioms fnChained_holds
end Go.Proofs.YtbjolkepjbblcaaGreatDoor
