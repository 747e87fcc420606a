/-
  FnPages returns true for every input and leaves it as it was. No condition.
-/
import Derived.Test.YtjlojjkfdidkiaaVK11
import Derived.Test.YtjlojjkfdidkiaaRows
namespace Go.Proofs.Ytjlojjkfdidkiaa.fnPages
open Go.Vee Go.ChangeShapes Go.WideShapes Go.ChangeAt Go.RowKit
open Go.ChangeMaps (open_string shut_string)
set_option linter.unusedVariables false
set_option linter.unusedSimpArgs false
theorem own : ownKnob Try.prog.godebug = none := by kernel_rfl
theorem laidOut : laidOutB Try.prog = true := by kernel_rfl
set_option maxRecDepth 100000 in
theorem lifted (os : Os) (started : os.Started) (H : Type) (enc : TypeId × Value → H) :
    ReturnsInHanded {} Try.checked os 7 .any (Rows.fnPagesSpec.pre6 enc Try.prog Try.f7 Rows.fnPagesRow.domain false) (Rows.fnPagesSpec.post enc Try.prog Try.f7 false true false false) := by
  refine returnsInHanded_of_change_sized (C := Try.checked) own started (by kernel_rfl) Try.func7
    (ChangeSpec.witness6 (enc := enc) (C := Try.checked) false ⟨#[], #[.slice none 0 0], []⟩ 8 (by kernel_rfl) (by kernel_rfl) (by kernel_rfl) (by kernel_rfl)) ?_
  intro W base args ds gs before hval0 hW hcnd hsz0 _
  have hval : ∀ (j : Nat) t v, Try.f7.params[j]? = some t → args[j]? = some v → Value.okWide Try.prog W .any base t v := hval0
  have hW' := hW
  obtain ⟨p, q, hA0, hV, rfl, hfz, hnd⟩ := hW
  have hA : DataW.TrodAll enc Try.prog W 0 (fun _ => true) true Try.f7.params.toList args.toList ds p := hA0
  rw [Try.params7] at hA hval
  obtain ⟨v0, vs0, d0, ds0, p0, q0, hargs, rfl, rfl, h0, r0⟩ := trodAll_cons hA
  obtain ⟨rfl, rfl, rfl⟩ := trodAll_nil r0
  obtain rfl : args = #[v0] := by cases args; simp_all
  obtain ⟨rfl, rfl⟩ := trodVars_none hV
  have k0 := h0
  have lt0 : ∀ x ∈ p0, x.block < W.heap.size := by obtain ⟨m, hm⟩ := k0; exact DataW.trod_lt m _ _ _ hm
  obtain ⟨x0, a0⟩ := arg_of_trod (t := (.sl (.int .u8))) (envOk.ty 34 (.sl (.int .u8)) (by decide)) (hval 0 34 v0 rfl rfl) h0
  have hpre : ∀ p ∈ [Q_w_FnPages x0], p := fun p hp => by
    rw [List.mem_singleton.1 hp]; exact trivial
  have hct : Ct pg 7 [.dat (.sl (.int .u8)) x0] ⟨[Q_w_FnPages x0], [⟨.bool, .sh, true⟩], []⟩ := ct_w_FnPages x0
  refine (law_calls (al := [.dat (.sl (.int .u8)) x0]) (us := [v0]) (Enters.of (by kernel_rfl)) hct hpre rfl (fun i v u h1 h2 => by
    match i, h1, h2 with
    | 0, h1, h2 => cases h1; cases h2; exact a0
    | j + 1, h1, h2 => cases h1)).mono fun e W' ⟨he, bel⟩ => ?_
  subst he
  exact ⟨_, rfl, _, _, _, [], _, [], hW', trodAll_mk1 (shut_bool Try.underlying4 _), (trodAll_cons_mk (Below.trod laidOut (by kernel_rfl) (of_decide_eq_true (by kernel_rfl)) k0 bel lt0) trodAll_mk0), rfl, bel.frame _, fun h => by cases h⟩
theorem over : Rows.fnPagesRow.holds Try.pinned (OpenSpec.ofChange Rows.fnPagesSpec) :=
  OpenClaim.holds_of_wide 7 Try.f7 rfl rfl rfl rfl rfl rfl rfl ⟨rfl, rfl, rfl, rfl, rfl⟩ rfl rfl rfl rfl rfl (by kernel_rfl) Try.func7 (by kernel_rfl)
    (of_decide_eq_true (by kernel_rfl)) (by unfold Func.isWrapper; first | (rw [if_pos (by decide +kernel)]; kernel_rfl) | (rw [if_neg (by decide +kernel)]; exact ⟨rfl, rfl⟩))
    (fun os started H enc _ => lifted os started H enc)
theorem proved : Rows.FnPagesSaid := over
#print axioms proved
end Go.Proofs.Ytjlojjkfdidkiaa.fnPages
namespace Go.Proofs.Ytjlojjkfdidkiaa
/-- The row, under a short name, for the claim. -/
theorem fnPages_holds : Rows.FnPagesSaid := fnPages.proved
end Go.Proofs.Ytjlojjkfdidkiaa
