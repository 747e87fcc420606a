import Derived.Test.YtcdlgemhmmkneaaVH9
import Derived.Laws.Tables
set_option linter.unusedSimpArgs false
set_option linter.unusedVariables false
namespace Go.Vee
open Go

def putA {α : Type} : List α → Nat → List α → List α
  | cs, _, [] => cs
  | cs, off, v :: vs => putA (cs.set off v) (off + 1) vs
theorem putCs_eq : ∀ (vs cs : List AV) (off : Nat), putCs cs off vs = putA cs off vs
  | [], _, _ => rfl
  | v :: vs, cs, off => by simp [putCs, putA, putCs_eq vs]
theorem putA_length {α : Type} : ∀ (vs cs : List α) (off : Nat), (putA cs off vs).length = cs.length
  | [], _, _ => rfl
  | v :: vs, cs, off => by simp [putA, putA_length vs]

theorem fold_put (off : Nat) : ∀ (l : List Value) (k : Nat) (us : List Value), (l.zipIdx k).foldl (fun (cs : Array Value) q => cs.setIfInBounds (off + q.2) q.1) us.toArray = (putA us (off + k) l).toArray
  | [], k, us => rfl
  | v :: l, k, us => by
    simp only [List.zipIdx_cons, List.foldl_cons, List.setIfInBounds_toArray, putA]
    rw [fold_put off l (k + 1)]
    rfl

section
variable {P : Program} {w0 w : World} {F0 : Bnd} {s : St} {a : Act} {I : Nat → Prop} {ρ : Nat → RC} {H : Heap} {o : Oper} {K : St → Prop} {Q : Exit → Act → World → Prop} {C : World → Prop}

theorem VRs.put : ∀ {vs cs : List AV} {us ds : List Value} {off : Nat}, VRs w I ρ H cs ds → VRs w I ρ H vs us → VRs w I ρ H (putA cs off vs) (putA ds off us)
  | [], cs, [], ds, off, h, k => h
  | v :: vs, cs, u :: us, ds, off, h, k => by
    refine VRs.put (off := off + 1) (cs := cs.set off v) (ds := ds.set off u) ⟨by simp [h.len], fun x hx => ?_, fun i x y hx hy => ?_⟩ (k.drop 1)
    · rcases List.mem_or_eq_of_mem_set hx with hx | rfl
      · exact h.one x hx
      · exact k.one x (by simp)
    · rw [List.getElem?_set] at hx hy
      split at hx
      · rename_i e
        subst e
        simp only [if_true] at hy
        split at hx
        · split at hy
          · cases hx; cases hy; exact k.at_ 0 v u rfl rfl
          · cases hy
        · cases hx
      · rename_i e
        rw [if_neg e] at hy
        exact h.at_ i x y hx hy
  | [], _, _ :: _, _, _, _, k => by have := k.len; simp at this
  | _ :: _, _, [], _, _, _, k => by have := k.len; simp at this

theorem fill_ok {T : Ty} {place : Nat → Option (Nat × Nat)} (hpl : ∀ i g k, fldT T i 0 = some (g, k) → place i = some (k, g.sz)) :
    ∀ {ps : List (Nat × Operand)} {cs cs' : List AV} {us : List Value}, Inv w0 F0 s a w I ρ → VRs w I ρ s.H cs us → us.length = T.sz → fillC T (ps.map fun q => (q.1, Vee.ev Alg.std s q.2)) cs = some cs' →
      ∃ us', Instr.fill place us.toArray (ps.map fun q => (q.1, a.eval q.2)) = some us'.toArray ∧ VRs w I ρ s.H cs' us' ∧ us'.length = T.sz
  | [], cs, cs', us, h, hv, hl, hf => by
    simp [fillC] at hf; subst hf
    exact ⟨us, by simp [Instr.fill], hv, hl⟩
  | (i, x) :: ps, cs, cs', us, h, hv, hl, hf => by
    simp only [List.map_cons, fillC] at hf
    split at hf
    · rename_i g k hg
      split at hf
      · rename_i hfit
        obtain ⟨vs, hu, hlv, hc⟩ := (h.ev x).fit hfit
        rw [putCs_eq] at hf
        have hle := fldT_le hg
        obtain ⟨us', h1, h2, h3⟩ := fill_ok hpl (us := putA us k vs) h (hv.put hc) (by rw [putA_length]; exact hl) hf
        refine ⟨us', ?_, h2, h3⟩
        simp only [List.map_cons, Instr.fill, hpl i g k hg, hu]
        have e1 : ¬ (vs.toArray.size ≠ g.sz ∨ k + vs.toArray.size > us.toArray.size) := by simp [hlv, hl]; omega
        have e2 : ¬ (vs.toArray.size ≠ g.sz || k + vs.toArray.size > us.toArray.size) = true := by simpa using e1
        rw [if_neg e2]
        rw [← h1]
        congr 1
        have := fold_put k vs 0 us
        rw [← Array.foldl_toList, Array.toList_zipIdx]
        simpa using this
      · cases hf
    · cases hf

theorem TyF.places : ∀ {t : Ty} {fs : List Field} {off : Nat}, (TyF P t).2 fs off → ∃ pl : List (Nat × Nat), fs.mapM (fun f => (P.info? f.type).map fun i => (f.offset, i.size)) = some pl ∧ ∀ i g k, fldT t i off = some (g, k) → pl[i]? = some (k, g.sz)
  | .unit, fs, off, h => by
    have : fs = [] := h
    subst this
    exact ⟨[], rfl, fun i g k hf => by simp [fldT] at hf⟩
  | .pair x y, fs, off, h => by
    obtain ⟨f, rest, rfl, h1, h2, h3, h4⟩ := h
    obtain ⟨pl, h5, h6⟩ := TyF.places h4
    obtain ⟨i, hi, hi1, _⟩ := (TyF.base h3).info
    refine ⟨(off, x.sz) :: pl, by simp [hi, h5, h1, hi1], fun j g k hf => ?_⟩
    cases j with
    | zero => simp [fldT] at hf; obtain ⟨rfl, rfl⟩ := hf; rfl
    | succ j => simp only [fldT] at hf; simpa using h6 j g k hf
  | .int _, _, _, h => h.elim
  | .bool, _, _, h => h.elim
  | .str, _, _, h => h.elim
  | .sl _, _, _, h => h.elim

theorem ok_build {t : TypeId} {ps : Array (Nat × Operand)} (τ : Env) (G : Gam) (hE : EnvOk P τ) (h : Inv w0 F0 s a w I ρ) (ho : o.op = .build t ps) (hs : sat (stepOp Alg.std τ G o s) (fun _ s' => K s')) :
    Quiet P o a C (fun a' => Post w0 F0 K a' w) := by
  simp only [stepOp, ho] at hs
  split at hs
  · rename_i T hT
    split at hs
    · rename_i hagg
      split at hs
      · rename_i cs hf
        have hF := hE.ty t T hT
        have core : ∀ fs : Array Field, P.underlying t = some (.struct fs) → (TyF P T).2 fs.toList 0 → T.isAgg = true → Quiet P o a C (fun a' => Post w0 F0 K a' w) := fun fs hu hF2 hA => by
          obtain ⟨pl, hm, hpl⟩ := TyF.places hF2
          obtain ⟨us, h1, h2, h3⟩ := fill_ok (place := (pl.toArray[·]?)) (fun i g k hh => by simpa using hpl i g k hh) h (VRs.zero T) (zeroCs_length T) hf
          refine ok_done (u := .agg us.toArray) h ?_ ?_ hs
          · intro w' _
            have hb : P.built t (ps.map fun q => (q.1, a.eval q.2)).toList = some us.toArray := by
              obtain ⟨i, hi, _, hz, _⟩ := (TyF.base hF).info
              have hc := mkV_cells (zeroCs_length T) (VRs.zero (w := w) (I := I) (ρ := ρ) (H := s.H) T).one
              simp only [Program.built, hi, hu, hz, hm, hc]
              rw [← h1]
              congr 1
              simp
            have := run_build (P := P) w' t (ps.map fun q => (q.1, a.eval q.2)) us.toArray hb
            unfold execOp
            rw [ho]
            simp only [Sem.run_bind, Sem.run_pure]
            rw [this]
            rfl
          · exact .agg cs us h2.len h2.one h2.at_
        cases T with
        | unit => obtain ⟨_, fs, hu, he⟩ := hF; exact core fs hu he rfl
        | pair x y => obtain ⟨_, fs, hu, he⟩ := hF; exact core fs hu he rfl
        | int k => simp [Ty.isAgg] at hagg
        | bool => simp [Ty.isAgg] at hagg
        | str => simp [Ty.isAgg] at hagg
        | sl e => simp [Ty.isAgg] at hagg
      · exact hs.elim
    · exact hs.elim
  · exact hs.elim

end
end Go.Vee
