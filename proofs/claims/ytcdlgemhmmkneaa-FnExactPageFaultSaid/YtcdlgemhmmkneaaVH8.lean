import Derived.Test.YtcdlgemhmmkneaaVH7
set_option linter.unusedSimpArgs false
set_option linter.unusedVariables false
namespace Go.Vee
open Go

section
variable {P : Program} {w0 w : World} {F0 : Bnd} {s : St} {a : Act} {I : Nat → Prop} {ρ : Nat → RC} {H : Heap} {o : Oper} {K : St → Prop} {Q : Exit → Act → World → Prop} {C : World → Prop}

theorem add_add (x : Addr) (i j : Nat) : (x.add i).add j = x.add (i + j) := by
  unfold Addr.add
  by_cases hi : i = 0 <;> by_cases hj : j = 0 <;> simp [hi, hj, Nat.add_assoc]

theorem subL_std {α : Type} (xs : List α) (l n : Nat) : Alg.std.subL xs l n = (xs.drop l).take n := rfl

theorem exec_slice {t : TypeId} {x : Operand} {lo hi : Option Operand} {d : TypeDesc} (ho : o.op = .slice t x lo hi none) (hu : P.underlying t = some d) (hd : ∀ n e, d ≠ .array n e) :
    (execOp a.eval o).run P w = ((Instr.slice t (a.eval x) (lo.map a.eval) (hi.map a.eval) none).run P w).andThen fun v w => .ok (.value v) w := by
  unfold execOp
  rw [ho]
  simp only [Sem.run_bind, Sem.run_pure, Option.map_none]
  congr 1
  unfold Instr.sliceAt
  simp only [Sem.run_bind, run_underlying hu, Result.andThen_ok]

theorem ok_slice {t : TypeId} {x : Operand} {lo hi : Option Operand} (τ : Env) (G : Gam) (hE : EnvOk P τ) (h : Inv w0 F0 s a w I ρ) (ho : o.op = .slice t x lo hi none) (hs : sat (stepOp Alg.std τ G o s) (fun _ s' => K s')) :
    Quiet P o a C (fun a' => Post w0 F0 K a' w) := by
  have hv := h.ev x
  simp only [stepOp, ho] at hs
  split at hs
  · rename_i T jl jh hT hl hh
    unfold cutOp at hs
    split at hs
    · rename_i t' xs hx
      rw [hx] at hv
      split at hs
      · rename_i e xs
        split at hs
        · rename_i hTe
          subst hTe
          obtain ⟨hb, hs⟩ := hs
          obtain ⟨eid, hun, hF, hsz⟩ := TyF.sl (hE.ty t _ hT)
          obtain ⟨A, c, hu, hlen, hlc, hcase⟩ := hv.sl_inv
          have hr := run_bounds (P := P) (isS := true) h hl hh hlc hb
          obtain ⟨h1, h2, h3⟩ := hb
          generalize hL : jl.getD 0 = L at *
          generalize hU : jh.getD (List.length xs : Int) = U at *
          have hU' : jh.getD (Alg.std.natI (Alg.std.lenL xs)) = U := hU
          rw [hU'] at hs h2 h3
          have h3' : U ≤ (List.length xs : Int) := h3
          have hn : (Alg.std.subL xs (Alg.std.toN L) (Alg.std.subN (Alg.std.toN U) (Alg.std.toN L))).length = U.toNat - L.toNat := by
            simp [Alg.std]; omega
          refine ok_done (u := .slice (if c = L.toNat then A else A.map (·.add (L.toNat * e.sz))) (U.toNat - L.toNat) (c - L.toNat)) h ?_ ?_ hs
          · intro w' _; rw [exec_slice ho hun (by intros; simp)]
            simp [Instr.slice, run_underlying hun, hu, hr, run_sizeOf (TyF.base hF)]
          · have : VR w I ρ s.H (.dat (.sl e) (Alg.std.subL xs (Alg.std.toN L) (Alg.std.subN (Alg.std.toN U) (Alg.std.toN L)))) (mkV (.sl e) [.slice (if c = L.toNat then A else A.map (·.add (L.toNat * e.sz))) (U.toNat - L.toNat) (c - L.toNat)]) := by
              refine .dat _ _ _ ⟨by rw [hn]; omega, rfl, _, _, by rw [hn], by rw [hn]; omega, ?_⟩
              by_cases h0 : U.toNat - L.toNat = 0
              · exact .inl (List.eq_nil_of_length_eq_zero (by rw [hn]; exact h0))
              · right
                rcases hcase with rfl | ⟨b, off, arr, et, fr, rfl, hb, hI, hel⟩
                · simp at h3'; omega
                · refine ⟨b, off + L.toNat * e.sz, arr, et, fr, ?_, hb, hI, fun j hj => ?_⟩
                  · rw [if_neg (by omega)]; simp [add_lit']
                  · rw [hn] at hj
                    obtain ⟨g1, g2⟩ := hel (L.toNat + j) (by omega)
                    have e1 : off + L.toNat * e.sz + (j + 1) * e.sz = off + (L.toNat + j + 1) * e.sz := by rw [Nat.add_assoc L.toNat j 1, Nat.add_mul L.toNat]; omega
                    have e2 : off + L.toNat * e.sz + j * e.sz = off + (L.toNat + j) * e.sz := by rw [Nat.add_mul L.toNat]; omega
                    rw [e1, e2]
                    refine ⟨g1, ?_⟩
                    have e3 : (Alg.std.subL xs (Alg.std.toN L) (Alg.std.subN (Alg.std.toN U) (Alg.std.toN L)))[j]'(by rw [hn]; exact hj) = xs[L.toNat + j]'(by omega) := by
                      simp [Alg.std]
                    rw [e3]
                    exact g2
            simpa [mkV, Ty.isAgg] using this
        · exact hs.elim
      · rename_i xs
        split at hs
        · rename_i hTe
          subst hTe
          obtain ⟨hb, hs⟩ := hs
          have hun := (hE.ty t _ hT).2
          obtain ⟨b, hbu, rfl, hlen⟩ := hv.str_inv
          have hml : (b.data.toList.map fun b => (b.toNat : Int)).length = b.size := by rw [List.length_map]; exact Array.length_toList
          have hml' : Alg.std.lenL (b.data.toList.map fun b => (b.toNat : Int)) = b.size := hml
          rw [hml'] at hb hs
          have hr := run_bounds (P := P) (isS := false) h hl hh (Nat.le_refl b.size) hb
          obtain ⟨h1, h2, h3⟩ := hb
          generalize hL : jl.getD 0 = L at *
          generalize hU : jh.getD (b.size : Int) = U at *
          have hU' : jh.getD (Alg.std.natI b.size) = U := hU
          rw [hU'] at hs h2 h3
          refine ok_done (u := .string (b.extract L.toNat U.toNat)) h ?_ ?_ hs
          · intro w' _; rw [exec_slice ho hun (by intros; simp)]
            simp [Instr.slice, run_underlying hun, hbu, hr]
          · refine VR.dat .str _ [.string _] ⟨⟨_, rfl, ?_, ?_⟩, rfl⟩
            · rw [Lib.extract_data]
              simp only [Alg.std, List.map_take, List.map_drop]
            · have : (b.extract L.toNat U.toNat).size ≤ b.size := by
                simp [ByteArray.size_extract]; omega
              omega
        · exact hs.elim
      · exact hs.elim
    · rename_i e r ver p lo' n hx
      rw [hx] at hv
      split at hs
      · rename_i hTe
        subst hTe
        obtain ⟨hb, hs⟩ := hs
        obtain ⟨eid, hun, hF, hsz⟩ := TyF.sl (hE.ty t _ hT)
        cases hu : a.eval x <;> rw [hu] at hv <;> cases hv
        rename_i A c hrl hn hnc hc
        have hr := run_bounds (P := P) (isS := true) h hl hh hnc hb
        obtain ⟨h1, h2, h3⟩ := hb
        generalize hL : jl.getD 0 = L at *
        generalize hU : jh.getD (n : Int) = U at *
        have hU' : jh.getD (Alg.std.natI n) = U := hU
        rw [hU'] at hs h2 h3
        refine ok_done (u := .slice (if c = L.toNat then A else A.map (·.add (L.toNat * e.sz))) (U.toNat - L.toNat) (c - L.toNat)) h ?_ ?_ hs
        · intro w' _; rw [exec_slice ho hun (by intros; simp)]
          simp [Instr.slice, run_underlying hun, hu, hr, run_sizeOf (TyF.base hF)]
        · refine .ref e r ver p _ _ _ _ hrl (by simp [Alg.std]; omega) (by simp [Alg.std]; omega) fun v' e' m xs hg => ?_
          obtain ⟨q1, q2⟩ := hc v' e' m xs hg
          refine ⟨q1, fun hh => ?_⟩
          obtain ⟨B, c0, len, l, g1, g2, g3, g4⟩ := q2 hh
          refine ⟨B, c0, len, l, g1, by simp [Alg.std]; omega, fun hpos => ?_, fun hwh => ?_⟩
          · simp only [Alg.std] at hpos ⊢
            rw [if_neg (by omega), g3 (by omega)]
            cases B with
            | none => rfl
            | some b =>
              simp only [Option.map_some, Option.some.injEq]
              rw [add_add, Nat.add_mul]
          · simp only [Alg.std] at hwh
            have e0 : L.toNat = 0 := by omega
            obtain ⟨rfl, rfl⟩ := g4 ⟨by omega, by omega⟩
            rw [e0]
            refine ⟨?_, by omega⟩
            split
            · rfl
            · cases A <;> simp [Addr.add]
      · exact hs.elim
    · exact hs.elim
  · exact hs.elim

end
end Go.Vee
