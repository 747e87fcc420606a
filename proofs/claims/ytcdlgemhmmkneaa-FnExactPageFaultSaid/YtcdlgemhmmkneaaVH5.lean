import Derived.Test.YtcdlgemhmmkneaaVH4
set_option linter.unusedSimpArgs false
set_option linter.unusedVariables false
namespace Go.Vee
open Go

/-- A struct's fields, as the program has them. -/
theorem TyF.fld {P : Program} : ∀ {t : Ty} {fs : List Field} {off n : Nat} {g : Ty} {k : Nat}, (TyF P t).2 fs off → fldT t n off = some (g, k) → ∃ f, fs[n]? = some f ∧ f.offset = k ∧ 0 < g.sz ∧ (TyF P g).1 f.type
  | .pair a b, fs, off, 0, g, k, h, hf => by
    obtain ⟨f, rest, rfl, h1, h2, h3, h4⟩ := h
    simp [fldT] at hf
    obtain ⟨rfl, rfl⟩ := hf
    exact ⟨f, rfl, h1, h2, h3⟩
  | .pair a b, fs, off, n + 1, g, k, h, hf => by
    obtain ⟨f, rest, rfl, h1, h2, h3, h4⟩ := h
    simp only [fldT] at hf
    obtain ⟨f', h5, h6⟩ := TyF.fld h4 hf
    exact ⟨f', by simpa using h5, h6⟩
  | .unit, _, _, _, _, _, _, hf => by simp [fldT] at hf
  | .int _, _, _, _, _, _, _, hf => by simp [fldT] at hf
  | .bool, _, _, _, _, _, _, hf => by simp [fldT] at hf
  | .str, _, _, _, _, _, _, hf => by simp [fldT] at hf
  | .sl _, _, _, _, _, _, _, hf => by simp [fldT] at hf

theorem TyF.struct {P : Program} {t : Ty} {tid : TypeId} {n : Nat} {g : Ty} {k : Nat} (h : (TyF P t).1 tid) (hf : fldT t n 0 = some (g, k)) :
    ∃ fs : Array Field, P.underlying tid = some (.struct fs) ∧ ∃ f, fs[n]? = some f ∧ f.offset = k ∧ 0 < g.sz ∧ (TyF P g).1 f.type := by
  cases t with
  | pair a b =>
    obtain ⟨_, fs, hu, hF⟩ := h
    obtain ⟨f, h1, h2⟩ := TyF.fld (t := .pair a b) (off := 0) hF hf
    exact ⟨fs, hu, f, by simpa using h1, h2⟩
  | _ => simp [fldT] at hf

theorem fldT_le : ∀ {t : Ty} {off n : Nat} {g : Ty} {k : Nat}, fldT t n off = some (g, k) → off ≤ k ∧ k + g.sz ≤ off + t.sz
  | .pair a b, off, 0, g, k, h => by simp [fldT] at h; obtain ⟨rfl, rfl⟩ := h; simp [Ty.sz]
  | .pair a b, off, n + 1, g, k, h => by have := fldT_le (by simpa [fldT] using h); simp [Ty.sz]; omega
  | .unit, _, _, _, _, h => by simp [fldT] at h
  | .int _, _, _, _, _, h => by simp [fldT] at h
  | .bool, _, _, _, _, h => by simp [fldT] at h
  | .str, _, _, _, _, h => by simp [fldT] at h
  | .sl _, _, _, _, _, h => by simp [fldT] at h

/-- A field of data. -/
theorem Own.fld {w : World} {I : Nat → Prop} : ∀ {t : Ty} {x : t.den} {cs : List Value} {n : Nat} {g : Ty} {y : g.den} {off : Nat}, Own w I t .sh cs x [] → fldD t x n = some ⟨g, y⟩ →
    ∃ k, fldT t n off = some (g, off + k) ∧ k + g.sz ≤ t.sz ∧ Own w I g .sh ((cs.drop k).take g.sz) y []
  | .pair a b, x, cs, 0, g, y, off, h, hf => by
    simp [fldD] at hf
    obtain ⟨rfl, hf⟩ := hf
    cases hf
    obtain ⟨c1, c2, f1, f2, rfl, hfp, h1, h2⟩ := h
    obtain ⟨rfl, rfl⟩ := List.append_eq_nil_iff.1 hfp.symm
    refine ⟨0, rfl, by simp [Ty.sz], ?_⟩
    rw [List.drop_zero, List.take_left' h1.len]
    exact h1
  | .pair a b, x, cs, n + 1, g, y, off, h, hf => by
    simp only [fldD] at hf
    obtain ⟨c1, c2, f1, f2, rfl, hfp, h1, h2⟩ := h
    obtain ⟨rfl, rfl⟩ := List.append_eq_nil_iff.1 hfp.symm
    obtain ⟨k, e1, e2, e3⟩ := Own.fld (off := off + a.sz) h2 hf
    refine ⟨a.sz + k, by simp only [fldT]; rw [e1]; simp [Nat.add_assoc], by simp only [Ty.sz]; omega, ?_⟩
    have hl := h1.len
    change c1.length = a.sz at hl
    rw [List.drop_append, List.drop_eq_nil_of_le (by omega), List.nil_append, hl, Nat.add_sub_cancel_left]
    exact e3
  | .unit, _, _, _, _, _, _, _, hf => by simp [fldD] at hf
  | .int _, _, _, _, _, _, _, _, hf => by simp [fldD] at hf
  | .bool, _, _, _, _, _, _, _, hf => by simp [fldD] at hf
  | .str, _, _, _, _, _, _, _, hf => by simp [fldD] at hf
  | .sl _, _, _, _, _, _, _, _, hf => by simp [fldD] at hf

theorem fldT_shift : ∀ {t : Ty} {n a b : Nat} {g : Ty} {k : Nat}, fldT t n a = some (g, a + k) → fldT t n (b + a) = some (g, b + (a + k))
  | .pair x y, 0, a, b, g, k, h => by simp [fldT] at h ⊢; omega
  | .pair x y, n + 1, a, b, g, k, h => by
    simp only [fldT] at h ⊢
    have hle := (fldT_le h).1
    have e : a + k = a + x.sz + (k - x.sz) := by omega
    rw [e] at h ⊢
    have := fldT_shift (b := b) h
    rwa [Nat.add_assoc b a x.sz]
  | .unit, _, _, _, _, _, h => by simp [fldT] at h
  | .int _, _, _, _, _, _, h => by simp [fldT] at h
  | .bool, _, _, _, _, _, h => by simp [fldT] at h
  | .str, _, _, _, _, _, h => by simp [fldT] at h
  | .sl _, _, _, _, _, _, h => by simp [fldT] at h

theorem hops_fldP : ∀ n, hops (fldP n) = 0
  | 0 => rfl
  | n + 1 => by simp [fldP, hops, hops_fldP n]

theorem walk_fldP {w : World} : ∀ {t : Ty} {cs : List Value} {b off n : Nat} {g : Ty} {k : Nat}, fldT t n off = some (g, k) → ∃ cs', walk w t cs (some (b, off)) (fldP n) = some (g, cs', some (b, k))
  | .pair a c, cs, b, off, 0, g, k, h => by
    simp [fldT] at h
    obtain ⟨rfl, rfl⟩ := h
    exact ⟨cs.take a.sz, by simp [fldP, walk]⟩
  | .pair a c, cs, b, off, n + 1, g, k, h => by
    simp only [fldT] at h
    obtain ⟨cs', h'⟩ := walk_fldP (w := w) (cs := cs.drop a.sz) (b := b) h
    exact ⟨cs', by simpa [fldP, walk] using h'⟩
  | .unit, _, _, _, _, _, _, h => by simp [fldT] at h
  | .int _, _, _, _, _, _, _, h => by simp [fldT] at h
  | .bool, _, _, _, _, _, _, h => by simp [fldT] at h
  | .str, _, _, _, _, _, _, h => by simp [fldT] at h
  | .sl _, _, _, _, _, _, _, h => by simp [fldT] at h

section
variable {P : Program} {w0 w : World} {F0 : Bnd} {s : St} {a : Act} {I : Nat → Prop} {ρ : Nat → RC} {H : Heap} {o : Oper} {K : St → Prop} {Q : Exit → Act → World → Prop} {C : World → Prop}

theorem run_fieldAt {t : TypeId} {T : Ty} {n : Nat} {g : Ty} {k : Nat} (hF : (TyF P T).1 t) (hf : fldT T n 0 = some (g, k)) (b off : Nat) :
    (Instr.fieldAt t (.pointer (some ⟨b, off, none⟩)) n).run P w = .ok (.pointer (some ⟨b, off + k, none⟩)) w := by
  obtain ⟨fs, hu, f, h1, h2, h3, h4⟩ := TyF.struct hF hf
  have h5 : ¬ g.sz = 0 := by omega
  simp [Instr.fieldAt, run_underlying hu, h1, Instr.sureAddr, fieldPlace, run_sizeOf (TyF.base h4), h5, h2, add_lit']

theorem ok_fieldAddr {t : TypeId} {x : Operand} {n : Nat} (τ : Env) (G : Gam) (hE : EnvOk P τ) (h : Inv w0 F0 s a w I ρ) (ho : o.op = .fieldAddr t x n) (hs : sat (stepOp Alg.std τ G o s) (fun _ s' => K s')) :
    Quiet P o a C (fun a' => Post w0 F0 K a' w) := by
  have hv := h.ev x
  simp only [stepOp, ho] at hs
  split at hs
  · rename_i T hT
    split at hs
    · rename_i g k hf
      split at hs
      · rename_i T' y hx
        rw [hx] at hv
        split at hs
        · rename_i hTT
          subst hTT
          split at hs
          · rename_i g' z hz
            cases hu : a.eval x <;> rw [hu] at hv <;> cases hv
            rename_i b off arr et fr hb hi hsz hown
            obtain ⟨k', h1, h2, h3⟩ := hown.fld (off := 0) hz
            rw [Nat.zero_add] at h1
            rw [hf] at h1
            cases h1
            rw [seg_seg h2] at h3
            refine ok_done (u := .pointer (some ⟨b, off + k, none⟩)) h ?_ (.dptr g z b (off + k) arr et fr hb hi (by omega) h3) hs
            intro w' _
            simp only [execOp, ho, hu]
            simp [run_fieldAt (hE.ty t _ hT) hf b off]
          · exact hs.elim
        · exact hs.elim
      · rename_i r ver p hx
        rw [hx] at hv
        split at hs
        · rename_i e m xs v hrow
          split at hs
          · rename_i T' m' x' hg
            split at hs
            · rename_i hTT
              subst hTT
              obtain ⟨hr, hver⟩ := rowAt_spec hrow
              cases hu : a.eval x <;> rw [hu] at hv <;> cases hv
              rename_i b off hrl hc
              obtain ⟨hle, hw⟩ := hc _ _ _ _ hr
              obtain ⟨t2, cs, hw⟩ := hw hver
              obtain ⟨rfl, _⟩ := Own.get p (h.roots r _ hr) hg hw
              refine ok_done (u := .pointer (some ⟨b, off + k, none⟩)) h ?_ (.ptr r ver (p ++ fldP n) b (off + k) hrl fun v' e' m1 xs' hg' => ?_) hs
              · intro w' _
                simp only [execOp, ho, hu]
                simp [run_fieldAt (hE.ty t _ hT) hf b off]
              · rw [hr] at hg'
                cases hg'
                refine ⟨hle, fun _ => ?_⟩
                have hf' : ∀ (T : Ty) (n off0 : Nat) (g : Ty) (k : Nat), fldT T n 0 = some (g, k) → fldT T n off0 = some (g, off0 + k) := fun T n off0 g k hh => by simpa using fldT_shift (a := 0) (b := off0) (k := k) (by simpa using hh)
                obtain ⟨cs', hw'⟩ := walk_fldP (w := w) (cs := cs) (b := b) (hf' _ _ off _ _ hf)
                exact ⟨g, cs', by rw [walk_append hw]; exact hw'⟩
            · exact hs.elim
          · exact hs.elim
        · exact hs.elim
      · rename_i r off hx
        rw [hx] at hv
        cases hu : a.eval x <;> rw [hu] at hv <;> cases hv
        rename_i hr
        refine ok_done (u := .pointer (some ⟨(ρ r).b, (ρ r).off + (off + k), none⟩)) h ?_ (.bptr r (off + k) hr) hs
        intro w' _
        simp only [execOp, ho, hu]
        simp [run_fieldAt (hE.ty t _ hT) hf (ρ r).b ((ρ r).off + off), Nat.add_assoc]
      · exact hs.elim
    · exact hs.elim
  · exact hs.elim

/-! ## Fields of values, elements, texts -/
theorem VRs.part {T : Ty} {n : Nat} {g : Ty} {k : Nat} {vs : List AV} {us : List Value} (h : VRs w I ρ H vs us) (hl : us.length = T.sz) (hf : fldT T n 0 = some (g, k)) :
    VR w I ρ H (Vee.ofCells g ((vs.drop k).take g.sz)) (mkV g ((us.drop k).take g.sz)) := by
  have := fldT_le hf
  exact ((h.drop k).take g.sz).ofCells (by simp; omega)

theorem run_part {g : Ty} {tid : TypeId} (hF : (TyF P g).1 tid) {us : List Value} {k : Nat} (hk : k + g.sz ≤ us.length) : (part tid us.toArray k).run P w = .ok (mkV g ((us.drop k).take g.sz)) w := by
  unfold part mkV
  simp only [Sem.run_bind, run_isAgg hF, Result.andThen_ok]
  by_cases ha : g.isAgg = true
  · simp [ha, run_sizeOf (TyF.base hF)]
  · have hs1 := isAgg_sz (by simpa using ha)
    have hlt : k < us.length := by omega
    simp [ha, hs1, hlt, List.take_one]

theorem agg_of_cells {v : AV} {u : Value} {us : List Value} (h : VR w I ρ H v u) (hv : isAggV v = true) (hu : u.cells = us.toArray) : u = .agg us.toArray := by
  cases h <;> simp [isAggV] at hv
  case dat t x cs ho =>
    rw [mkV_cells ho.len ho.one] at hu
    simp [mkV, hv, ← hu]
  case agg vs cs hl h1 h => simp [Value.cells] at hu; simp [hu]

theorem ok_field {t : TypeId} {x : Operand} {n : Nat} (τ : Env) (G : Gam) (hE : EnvOk P τ) (h : Inv w0 F0 s a w I ρ) (ho : o.op = .field t x n) (hs : sat (stepOp Alg.std τ G o s) (fun _ s' => K s')) :
    Quiet P o a C (fun a' => Post w0 F0 K a' w) := by
  have hv := h.ev x
  simp only [stepOp, ho] at hs
  split at hs
  · rename_i T hT
    split at hs
    · rename_i g k hf
      split at hs
      · rename_i hA
        split at hs
        · rename_i hfit
          obtain ⟨us, hu, hl, hc⟩ := hv.fit hfit
          obtain ⟨fs, hun, f, h1, h2, h3, h4⟩ := TyF.struct (hE.ty t T hT) hf
          have hle := fldT_le hf
          have hagg : a.eval x = .agg us.toArray := agg_of_cells hv hA hu
          refine ok_done (u := mkV g ((us.drop k).take g.sz)) h ?_ (hc.part hl hf) hs
          intro w' _
          simp [execOp, ho, Instr.field, run_underlying hun, h1, hagg, asAgg, h2, run_part h4 (us := us) (k := k) (by omega)]
        · exact hs.elim
      · exact hs.elim
    · exact hs.elim
  · exact hs.elim

end
end Go.Vee
