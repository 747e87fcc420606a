import Derived.Test.YtcdlgemhmmkneaaVH6
set_option linter.unusedSimpArgs false
set_option linter.unusedVariables false
namespace Go.Vee
open Go

section
variable {P : Program} {w0 w : World} {F0 : Bnd} {s : St} {a : Act} {I : Nat → Prop} {ρ : Nat → RC} {H : Heap} {o : Oper} {K : St → Prop} {Q : Exit → Act → World → Prop} {C : World → Prop}

theorem natI_range {n : Nat} (h : n ≤ 9223372036854775807) : IntKind.i64.min ≤ (n : Int) ∧ (n : Int) ≤ IntKind.i64.max := i64_range (by omega)

theorem run_len_sl {t eid : TypeId} (hu : P.underlying t = some (.slice eid)) (ty : TypeId) (A : Option Addr) (n c : Nat) : (Builtin.len_ #[t] ty #[.slice A n c]).run P w = .ok (.int .i64 n) w := by
  simp [Builtin.len_, run_underlying hu, goInt]

theorem exec_builtin {b : Builtin} {args : Array Operand} {ts : Array TypeId} (ho : o.op = .call { callee := .builtin b, args := args, argTypes := ts }) :
    ∃ cs, ∀ w, (execOp a.eval o).run P w = (builtin b ts o.type cs (args.map a.eval)).run P w := by
  unfold execOp
  rw [ho]
  simp only [resolve, Sem.run_bind, Sem.run_pure, Result.andThen_ok, invoke]
  exact ⟨_, fun _ => rfl⟩

theorem ok_len {x : Operand} {t : TypeId} (τ : Env) (G : Gam) (hE : EnvOk P τ) (h : Inv w0 F0 s a w I ρ) (ho : o.op = .call { callee := .builtin .len, args := #[x], argTypes := #[t] }) (hs : sat (stepOp Alg.std τ G o s) (fun _ s' => K s')) :
    Quiet P o a C (fun a' => Post w0 F0 K a' w) := by
  have hv := h.ev x
  simp only [stepOp, ho] at hs
  split at hs
  · rename_i T hT
    unfold lenOp at hs
    split at hs
    · rename_i t' xs hx
      rw [hx] at hv
      split at hs
      · rename_i e xs
        split at hs
        · rename_i e2
          obtain ⟨eid, hun, _⟩ := TyF.sl (hE.ty t _ hT)
          obtain ⟨A, c, hu, hl, _, _⟩ := hv.sl_inv
          refine ok_done (u := .int .i64 (List.length xs)) h ?_ (VR.int (natI_range hl)) hs
          intro w' _
          obtain ⟨bc, hbc⟩ := exec_builtin (P := P) (a := a) ho
          rw [hbc]
          simp [builtin, hu, run_len_sl hun]
        · exact hs.elim
      · rename_i xs
        split at hs
        · obtain ⟨b, hb, rfl, hl⟩ := hv.str_inv
          have hlen : (b.data.toList.map fun b => (b.toNat : Int)).length = b.size := by rw [List.length_map]; exact Array.length_toList
          refine ok_done (u := .int .i64 b.size) h ?_ (v := .dat (.int .i64) (Alg.std.natI (Alg.std.lenL (b.data.toList.map fun b => (b.toNat : Int))))) ?_ hs
          · intro w' _
            obtain ⟨bc, hbc⟩ := exec_builtin (P := P) (a := a) ho
            rw [hbc]
            simp [builtin, hb, Builtin.len_, run_underlying (hE.ty t _ hT).2, goInt]
          · have : Alg.std.natI (Alg.std.lenL (b.data.toList.map fun b => (b.toNat : Int))) = (b.size : Int) := by simp only [Alg.std]; rw [hlen]
            rw [this]
            exact VR.int (natI_range hl)
        · exact hs.elim
      · exact hs.elim
    · rename_i e r ver p lo n hx
      rw [hx] at hv
      split at hs
      · obtain ⟨eid, hun, _⟩ := TyF.sl (hE.ty t _ hT)
        cases hu : a.eval x <;> rw [hu] at hv <;> cases hv
        rename_i A c hrl hn hnc hc
        refine ok_done (u := .int .i64 n) h ?_ (VR.int (natI_range hn)) hs
        intro w' _
        obtain ⟨bc, hbc⟩ := exec_builtin (P := P) (a := a) ho
        rw [hbc]
        simp [builtin, hu, run_len_sl hun]
      · exact hs.elim
    · rename_i hx
      rw [hx] at hv
      split at hs
      · obtain ⟨eid, hun, _⟩ := TyF.sl (hE.ty t _ hT)
        cases hu : a.eval x <;> rw [hu] at hv <;> cases hv
        refine ok_done (u := .int .i64 0) h ?_ (VR.int (natI_range (n := 0) (by omega))) hs
        intro w' _
        obtain ⟨bc, hbc⟩ := exec_builtin (P := P) (a := a) ho
        rw [hbc]
        simp [builtin, hu, run_len_sl hun]
      · exact hs.elim
    · exact hs.elim
  · exact hs.elim

/-! ## Cuts -/
theorem run_bound {v : Value} {k : IntKind} {i : Int} {y : Nat} {c : BoundsCode} (hv : v = .int k i) (h0 : 0 ≤ i) (h1 : i ≤ y) : (Instr.sliceBound v y c).run P w = .ok i.toNat w := by
  subst hv
  simp [Instr.sliceBound, asIntOf, h0, h1]

theorem optI_spec (h : Inv w0 F0 s a w I ρ) {x : Option Operand} {j : Option Int} (hj : optI Alg.std s x = some j) : (x = none ∧ j = none) ∨ ∃ o k n, x = some o ∧ j = some n ∧ a.eval o = .int k n := by
  cases x with
  | none => left; simp [optI] at hj; exact ⟨rfl, hj.symm⟩
  | some o =>
    right
    simp only [optI] at hj
    split at hj
    · rename_i n hn
      cases hj
      obtain ⟨k, hk, _⟩ := (h.ev o).intOf hn
      exact ⟨o, k, n, rfl, rfl, hk⟩
    · cases hj

/-- The bounds of a cut. -/
theorem run_bounds (h : Inv w0 F0 s a w I ρ) {isS : Bool} {lo hi : Option Operand} {jl jh : Option Int} (hl : optI Alg.std s lo = some jl) (hh : optI Alg.std s hi = some jh) {n c : Nat} (hnc : n ≤ c)
    (hb : Alg.std.InS (jl.getD 0) (jh.getD (n : Int)) n) (w' : World) : (Instr.sliceBounds isS n c (lo.map a.eval) (hi.map a.eval) none).run P w' = .ok ((jl.getD 0).toNat, (jh.getD (n : Int)).toNat, c) w' := by
  obtain ⟨h1, h2, h3⟩ := hb
  unfold Instr.sliceBounds
  rcases optI_spec h hl with ⟨rfl, rfl⟩ | ⟨ol, kl, nl, rfl, rfl, hel⟩ <;> rcases optI_spec h hh with ⟨rfl, rfl⟩ | ⟨oh, kh, nh, rfl, rfl, heh⟩
  · simp
  · simp only [Option.getD_some, Option.getD_none] at h1 h2 h3
    have := fun c' => run_bound (P := P) (w := w') (c := c') heh (by omega) (show nh ≤ (c : Int) by omega)
    simp [this]
  · simp only [Option.getD_some, Option.getD_none] at h1 h2 h3
    have := fun c' => run_bound (P := P) (w := w') (c := c') hel (by omega) (show nl ≤ (n : Int) by omega)
    simp [this]
  · simp only [Option.getD_some, Option.getD_none] at h1 h2 h3
    have g1 := fun c' => run_bound (P := P) (w := w') (c := c') heh (by omega) (show nh ≤ (c : Int) by omega)
    have g2 := fun c' => run_bound (P := P) (w := w') (c := c') hel (by omega) (show nl ≤ (nh.toNat : Int) by omega)
    simp [g1, g2]

end
end Go.Vee
