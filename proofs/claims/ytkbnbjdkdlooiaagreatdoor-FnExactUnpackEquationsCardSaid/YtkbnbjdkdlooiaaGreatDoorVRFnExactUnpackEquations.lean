/-
  FnExactUnpackEquations returns true for every input and leaves it as it was. No condition.
-/
import Derived.Test.YtkbnbjdkdlooiaaGreatDoorVK14
import Derived.Test.YtkbnbjdkdlooiaaGreatDoorCards
import Derived.Test.YtkbnbjdkdlooiaaGreatDoorTie
import Derived.LaidMore
import Derived.Lay
import Derived.SevenTiedAt
import Derived.Stop.Joined
namespace Go.Proofs.YtkbnbjdkdlooiaaGreatDoor.fnExactUnpackEquations
open Go.Vee Go.ChangeShapes Go.WideShapes Go.ChangeAt Go.RowKit
open Go.ChangeMaps (open_string shut_string)
set_option linter.unusedVariables false
set_option linter.unusedSimpArgs false
theorem own : ownKnob Tryz.prog.godebug = none := by kernel_rfl
theorem laidOut : laidOutB Tryz.prog = true := by kernel_rfl
set_option maxRecDepth 100000 in
theorem lifted (os : Os) (started : os.Started) (H : Type) (enc : TypeId × Value → H) :
    ReturnsInHanded {} Tryz.checked os 4 .any (fun w args => (Rows.fnExactUnpackEquationsSpec.pre enc Tryz.prog Tryz.f4 Rows.fnExactUnpackEquationsRow.domain false w args ∧ laidMetH Tryz.prog Rows.fnExactUnpackEquationsRow.laid w) ∧ sizedMet enc Tryz.prog Tryz.f4 (OpenSpec.ofChange Rows.fnExactUnpackEquationsSpec) false w args) (Rows.fnExactUnpackEquationsSpec.post enc Tryz.prog Tryz.f4 false true false false) := by
  refine returnsInHanded_of_change_and (C := Tryz.checked) (X := (fun w _ => laidMetH Tryz.prog Rows.fnExactUnpackEquationsRow.laid w)) (fun _ _ _ hh h => h.of_heap hh) own started (by kernel_rfl) Tryz.func4
    (ChangeSpec.witness_shaped (enc := enc) (C := Tryz.checked) (os := os) (X := (fun w _ => laidMetH Tryz.prog Rows.fnExactUnpackEquationsRow.laid w)) false (World.laidAll Tryz.prog os Rows.fnExactUnpackEquationsRow.laid) #[.agg #[.slice none 0 0], .slice none 0 0] 8 (World.laidAll_os _ _ _)
      (World.shaped_of_ZipB (by kernel_rfl) (by kernel_rfl)) (by kernel_rfl) (by kernel_rfl) (by kernel_rfl)
      (by rw [MakeChecks.laidMetH_plain _ _ _ (by kernel_rfl)]; exact laidMet_laidAll _ (by kernel_rfl) (by kernel_rfl))) ?_
  intro W base args ds gs before hval0 hW hcnd hsz0 hL _
  have hval : ∀ (j : Nat) t v, Tryz.f4.params[j]? = some t → args[j]? = some v → Value.okWide Tryz.prog W .any base t v := hval0
  have hW' := hW
  obtain ⟨p, q, hA0, hV, rfl, hfz, hnd⟩ := hW
  have hA : DataW.TrodAll enc Tryz.prog W 0 (fun _ => true) true Tryz.f4.params.toList args.toList ds p := hA0
  rw [Tryz.params4] at hA hval
  obtain ⟨v0, vs0, d0, ds0, p0, q0, hargs, rfl, rfl, h0, r0⟩ := trodAll_cons hA
  obtain ⟨v1, vs1, d1, ds1, p1, q1, rfl, rfl, rfl, h1, r1⟩ := trodAll_cons r0
  obtain ⟨rfl, rfl, rfl⟩ := trodAll_nil r1
  obtain rfl : args = #[v0, v1] := by cases args; simp_all
  obtain ⟨rfl, rfl⟩ := trodVars_none hV
  have k0 := h0
  have lt0 : ∀ x ∈ p0, x.block < W.heap.size := by obtain ⟨m, hm⟩ := k0; exact DataW.trod_lt m _ _ _ hm
  obtain ⟨x0, a0⟩ := arg_of_trod (t := (.pair (.sl (.pair .str (.pair (.int .i64) .unit))) .unit)) (envOk.ty 47 (.pair (.sl (.pair .str (.pair (.int .i64) .unit))) .unit) (by decide)) (hval 0 47 v0 rfl rfl) h0
  have k1 := h1
  have lt1 : ∀ x ∈ p1, x.block < W.heap.size := by obtain ⟨m, hm⟩ := k1; exact DataW.trod_lt m _ _ _ hm
  obtain ⟨x1, a1⟩ := arg_of_trod (t := (.sl (.int .u8))) (envOk.ty 27 (.sl (.int .u8)) (by decide)) (hval 1 27 v1 rfl rfl) h1
  have hpre : ∀ p ∈ [Q_w_FnExactUnpackEquations x0 x1], p := fun p hp => by
    rw [List.mem_singleton.1 hp]; exact trivial
  have hct : Ct pg 4 [.dat (.pair (.sl (.pair .str (.pair (.int .i64) .unit))) .unit) x0, .dat (.sl (.int .u8)) x1] ⟨[Q_w_FnExactUnpackEquations x0 x1], [⟨.bool, .sh, true⟩], []⟩ := ct_w_FnExactUnpackEquations x0 x1
  refine (law_calls (al := [.dat (.pair (.sl (.pair .str (.pair (.int .i64) .unit))) .unit) x0, .dat (.sl (.int .u8)) x1]) (us := [v0, v1]) (Enters.of (by kernel_rfl)) hct hpre rfl (fun i v u h1 h2 => by
    match i, h1, h2 with
    | 0, h1, h2 => cases h1; cases h2; exact a0
    | 1, h1, h2 => cases h1; cases h2; exact a1
    | j + 2, h1, h2 => cases h1)).mono fun e W' ⟨he, bel⟩ => ?_
  subst he
  exact ⟨_, rfl, _, _, _, [], _, [], hW', trodAll_mk1 (shut_bool Tryz.underlying4 _), (trodAll_cons_mk (Below.trod laidOut (by kernel_rfl) (of_decide_eq_true (by kernel_rfl)) k0 bel lt0) (trodAll_cons_mk (Below.trod laidOut (by kernel_rfl) (of_decide_eq_true (by kernel_rfl)) k1 bel lt1) trodAll_mk0)), rfl, bel.frame _, fun h => by cases h⟩
theorem j1 : (Rows.fnExactUnpackEquationsRow.inPlace == Tryz.pinned.checked.prog.inPlace 4) = true := by kernel_rfl
theorem j2 : (Rows.fnExactUnpackEquationsRow.unfollowed == Tryz.pinned.checked.prog.unfollowed 4) = true := by kernel_rfl
theorem j3 : (Rows.fnExactUnpackEquationsRow.recurses == Tryz.pinned.checked.prog.recurses 4) = true := by kernel_rfl
theorem j4 : (Rows.fnExactUnpackEquationsRow.named == Tryz.pinned.checked.prog.varsNamed 4) = true := by kernel_rfl
theorem closed : joinedFacts Tryz.pinned.checked.prog 4 Tryz.f4 Rows.fnExactUnpackEquationsSpec Rows.fnExactUnpackEquationsRow = true := by
  unfold joinedFacts
  rw [j1, j2, j3, j4]
  kernel_rfl
theorem over : Rows.fnExactUnpackEquationsRow.holds Tryz.pinned (OpenSpec.ofChange Rows.fnExactUnpackEquationsSpec) :=
  OpenClaim.holds_of_wide 4 Tryz.f4 rfl rfl rfl rfl rfl rfl rfl ⟨rfl, rfl, rfl, rfl, rfl⟩ rfl rfl rfl rfl rfl (by kernel_rfl) Tryz.func4 closed
    (of_decide_eq_true (by kernel_rfl)) (by unfold Func.isWrapper; first | (rw [if_pos (by decide +kernel)]; kernel_rfl) | (rw [if_neg (by decide +kernel)]; exact ⟨rfl, rfl⟩))
    (fun os started H enc _ => lifted os started H enc)
theorem proved : Rows.FnExactUnpackEquationsCardSaid :=
  Claim7.holds_tied_plain_at .later [] [.data, .pinned] true (true, "ce55c2b7c6419a3c08c8a53450f66a801f7c9feb3b6546f81de0af7cbd5d616d") false over (fun _ h => by cases h) (by kernel_rfl) (fun _ h => by cases h) fnExactUnpackEquations_row_tie rfl ⟨rfl, rfl⟩ (by kernel_rfl) rfl
    (fun f fn hf hfn => by
      obtain rfl : f = 4 := Option.some.inj ((show Tryz.prog.funcNamed "loop.example/g00653/laws.FnExactUnpackEquations" = some 4 by kernel_rfl).symm.trans hf) |>.symm
      obtain rfl : fn = Tryz.f4 := (Option.some.inj (Tryz.func4.symm.trans hfn)).symm
      exact ⟨by kernel_rfl, fun j t ht => by
        rw [Tryz.params4] at ht
        have hm : t ∈ [47, 27] := by have := Array.mem_of_getElem? ht; simpa using this
        have hall : ([47, 27].all fun u => !Tryz.prog.wantsStandIn u) = true := by kernel_rfl
        exact (show Tryz.prog.wantsStandIn t = false by simpa using List.all_eq_true.1 hall t hm)⟩)
    (by kernel_rfl)
#print axioms proved
end Go.Proofs.YtkbnbjdkdlooiaaGreatDoor.fnExactUnpackEquations
namespace Go.Proofs.YtkbnbjdkdlooiaaGreatDoor
/-- The row, under a short name, for the claim. -/
theorem fnExactUnpackEquations_holds : Rows.FnExactUnpackEquationsCardSaid := fnExactUnpackEquations.proved
end Go.Proofs.YtkbnbjdkdlooiaaGreatDoor
