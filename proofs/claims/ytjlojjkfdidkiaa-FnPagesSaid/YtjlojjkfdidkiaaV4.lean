/-
  Each operation of a body is shown to do what the evaluator says, second part.
-/
import Derived.Test.YtjlojjkfdidkiaaV3
import Derived.Laws.Tables
import Derived.Laws.MakeOwn
import Derived.Laws.BytesArg
set_option linter.unusedSimpArgs false
set_option linter.unusedVariables false
namespace Go.Vee
open Go

section
variable {P : Program} {w0 w : World} {F0 : Bnd} {s : St} {a : Act} {I : Nat → Prop} {ρ : Nat → RC} {H : Heap} {o : Oper} {K : St → Prop} {Q : Exit → Act → World → Prop}

/-! ## Packing -/
theorem castD_some {t t' : Ty} {x : t.den} {y : t'.den} (h : castD t t' x = some y) : ∃ e : t = t', e ▸ x = y := by
  unfold castD at h
  split at h
  · rename_i e; cases h; exact ⟨e, rfl⟩
  · cases h

theorem sat_needs {ps : List Prop} {k : Tr} {Q : Ex → St → Prop} : sat (needs ps k) Q ↔ (∀ p ∈ ps, p) ∧ sat k Q := by
  induction ps with
  | nil => simp [needs]
  | cons p ps ih => simp only [needs, sat, ih, List.forall_mem_cons, and_assoc]

/-- What packing hands over: data in the cells, its blocks taken from the roots that are gone. -/
structure Packed (w : World) (I : Nat → Prop) (ρ : Nat → RC) (H H' : Heap) (t : Ty) (m : Md) (x : t.den) (us : List Value) (fp : List Nat) : Prop where
  own : Own w I t m us x fp
  nd : fp.Nodup
  sub : ∀ r o, hget H' r = some o → hget H r = some o
  len : H'.length = H.length
  src : ∀ b ∈ fp, ∃ r o, hget H r = some o ∧ hget H' r = none ∧ b ∈ tfp ρ r o

theorem hget_set_none {r k : Nat} : hget (H.set r none) k = if k = r then none else hget H k := by
  unfold hget
  simp only [List.getD_eq_getElem?_getD, List.getElem?_set]
  by_cases h : r = k
  · subst h
    by_cases hl : r < H.length
    · simp [hl]
    · simp [hl]
  · simp [h, Ne.symm h]

/-- The roots' blocks, as the invariant has them. -/
structure Roots (w : World) (I : Nat → Prop) (ρ : Nat → RC) (H : Heap) : Prop where
  ok : ∀ r o, hget H r = some o → RootOk w I ρ H r o
  nodup : ∀ r o, hget H r = some o → (tfp ρ r o).Nodup
  disj : ∀ r o r' o', r ≠ r' → hget H r = some o → hget H r' = some o' → ∀ b ∈ tfp ρ r o, b ∉ tfp ρ r' o'
theorem Inv.rootsOf (h : Inv w0 F0 s a w I ρ) : Roots w I ρ s.H := ⟨h.roots, h.nodup, h.disj⟩

theorem Own.nil {e : Ty} (h : Md) : Own w I (.sl e) (nilM e h) [.slice none 0 0] [] [] := by
  cases h <;> first | exact ⟨by simp, rfl, none, 0, rfl, Nat.le_refl _, .inl rfl⟩ | exact ⟨by simp, .inl ⟨rfl, rfl, rfl⟩⟩

theorem packM_spec (HH : Heap) (R : Roots w I ρ HH) : ∀ {t : Ty} {hm : Md} {l : List AV} {H : Heap} {us : List Value} {k : Pk t},
    (∀ r o, hget H r = some o → hget HH r = some o) → VRs w I ρ HH l us → packM Alg.std t hm l H = some k → (∀ p ∈ k.p, p) →
    ∃ u1 u2 fp, us = u1 ++ u2 ∧ VRs w I ρ HH k.l u2 ∧ Packed w I ρ H k.H t k.m k.x u1 fp
  | .unit, hm, l, H, us, k, hH, hv, hp, _ => by
    simp [packM] at hp; subst hp
    exact ⟨[], us, [], rfl, hv, ⟨⟨rfl, rfl⟩, by simp, fun _ _ h => h, rfl, by simp⟩⟩
  | .pair x y, hm, l, H, us, k, hH, hv, hp, hq => by
    simp only [packM] at hp
    split at hp
    · rename_i k1 h1
      split at hp
      · rename_i k2 h2
        cases hp
        obtain ⟨u1, u2, f1, rfl, hv1, p1⟩ := packM_spec HH R hH hv h1 (fun p hp => hq p (by simp [hp]))
        obtain ⟨u3, u4, f2, rfl, hv2, p2⟩ := packM_spec HH R (fun r o h => hH r o (p1.sub r o h)) hv1 h2 (fun p hp => hq p (by simp [hp]))
        refine ⟨u1 ++ u3, u4, f1 ++ f2, by simp, hv2, ⟨⟨u1, u3, f1, f2, rfl, rfl, p1.own, p2.own⟩, ?_, fun r o h => p1.sub r o (p2.sub r o h), p2.len.trans p1.len, ?_⟩⟩
        · rw [List.nodup_append]
          refine ⟨p1.nd, p2.nd, fun b hb c hc hbc => ?_⟩
          subst hbc
          obtain ⟨r, o, g1, g2, g3⟩ := p1.src b hb
          obtain ⟨r', o', g4, g5, g6⟩ := p2.src b hc
          have hne : r ≠ r' := by rintro rfl; rw [g2] at g4; cases g4
          exact R.disj r o r' o' hne (hH _ _ g1) (hH _ _ (p1.sub _ _ g4)) b g3 g6
        · intro b hb
          rcases List.mem_append.1 hb with hb | hb
          · obtain ⟨r, o, g1, g2, g3⟩ := p1.src b hb
            refine ⟨r, o, g1, ?_, g3⟩
            cases hk : hget k2.H r with
            | none => rfl
            | some o' => have := p2.sub r o' hk; rw [g2] at this; cases this
          · obtain ⟨r, o, g1, g2, g3⟩ := p2.src b hb
            exact ⟨r, o, p1.sub r o g1, g2, g3⟩
      · cases hp
    · cases hp
  | .sl e, hm, [], H, us, k, hH, hv, hp, hq => by simp [packM] at hp
  | .sl e, hm, v :: l, H, us, k, hH, hv, hp, hq => by
    have hlen := hv.len
    match us, hlen, hv with
    | u :: us, _, hv =>
    have hvu := hv.at_ 0 v u rfl rfl
    have htl : VRs w I ρ HH l us := hv.drop 1
    clear hlen hv
    simp only [packM] at hp
    split at hp
    · rename_i t x
      split at hp
      · rename_i y hy
        cases hp
        obtain ⟨e1, e2⟩ := castD_some hy
        subst e1
        subst e2
        obtain ⟨cs, ho, rfl⟩ := hvu.dat_inv
        have h1 := ho
        obtain ⟨_, _, A, c, rfl, _, _⟩ := h1
        exact ⟨[_], us, [], rfl, htl, ⟨ho, by simp, fun _ _ h => h, rfl, by simp⟩⟩
      · cases hp
    · cases hp
      cases hvu
      exact ⟨[_], us, [], rfl, htl, ⟨Own.nil _, by simp, fun _ _ h => h, rfl, by simp⟩⟩
    · rename_i e0 r ver n _
      split at hp
      · rename_i v0 e' m x hr
        split at hp
        · rename_i y hy
          cases hp
          obtain ⟨e1, e2⟩ := castD_some hy
          cases e1
          subst e2
          have hn : n = List.length x := hq (Alg.std.EqN n (Alg.std.lenL x)) (List.mem_singleton.2 rfl)
          have hrH := hH _ _ hr
          cases hvu
          rename_i A c hrl hn' hnc hc _
          obtain ⟨_, hw⟩ := hc _ _ _ _ hrH
          obtain ⟨B, c0, len, l', hw, q1, q2, q3⟩ := hw (.inl rfl)
          have hown : Own w I (.sl e) (.ow m) [(ρ r).hdr] x (ρ r).fp := R.ok r _ hrH
          have hhdr : (ρ r).hdr = .slice B len c0 ∧ e = e0 := by
            simp [walk] at hw; exact ⟨hw.2.1, hw.1⟩
          obtain ⟨hhdr, rfl⟩ := hhdr
          have hlx : len = List.length x := by
            rw [hhdr] at hown
            rcases hown.2 with ⟨he, hx, _⟩ | ⟨b, c, arr, et, fps, he, _⟩
            · simp at he; simp [he, hx]
            · simp at he; exact he.2.1
          obtain ⟨rfl, rfl⟩ := q3 ⟨rfl, by omega⟩
          refine ⟨[.slice A n c], us, (ρ r).fp, rfl, htl, ⟨?_, R.nodup r _ hrH, fun k o hk => ?_, by simp, fun b hb => ⟨r, _, hr, by rw [hget_set_none, if_pos rfl], by simpa [tfp] using hb⟩⟩⟩
          · rw [hhdr] at hown
            rw [show n = len by omega]
            exact hown
          · rw [hget_set_none] at hk
            split at hk
            · cases hk
            · exact hk
        · cases hp
      · cases hp
    · cases hp
  | .int k0, hm, [], H, us, k, hH, hv, hp, hq => by simp [packM] at hp
  | .int k0, hm, v :: l, H, us, k, hH, hv, hp, hq => by
    have hlen := hv.len
    match us, hlen with
    | u :: us, _ =>
    have hvu := hv.at_ 0 v u rfl rfl
    have htl : VRs w I ρ HH l us := hv.drop 1
    cases v with
    | dat t x =>
      simp only [packM] at hp
      split at hp
      · rename_i y hy
        cases hp
        obtain ⟨e1, e2⟩ := castD_some hy
        subst e1
        subst e2
        obtain ⟨rfl, h2⟩ := hvu.int_inv
        exact ⟨[_], us, [], rfl, htl, ⟨⟨rfl, h2, rfl⟩, by simp, fun _ _ h => h, rfl, by simp⟩⟩
      · cases hp
    | _ => simp [packM] at hp
  | .bool, hm, [], H, us, k, hH, hv, hp, hq => by simp [packM] at hp
  | .bool, hm, v :: l, H, us, k, hH, hv, hp, hq => by
    have hlen := hv.len
    match us, hlen with
    | u :: us, _ =>
    have hvu := hv.at_ 0 v u rfl rfl
    have htl : VRs w I ρ HH l us := hv.drop 1
    cases v with
    | dat t x =>
      simp only [packM] at hp
      split at hp
      · rename_i y hy
        cases hp
        obtain ⟨e1, e2⟩ := castD_some hy
        subst e1
        subst e2
        have := hvu.bool_inv
        subst this
        exact ⟨[_], us, [], rfl, htl, ⟨⟨rfl, rfl⟩, by simp, fun _ _ h => h, rfl, by simp⟩⟩
      · cases hp
    | lb b =>
      simp [packM] at hp; subst hp
      have := lb_dat hvu
      subst this
      exact ⟨[_], us, [], rfl, htl, ⟨⟨rfl, rfl⟩, by simp, fun _ _ h => h, rfl, by simp⟩⟩
    | _ => simp [packM] at hp
  | .str, hm, [], H, us, k, hH, hv, hp, hq => by simp [packM] at hp
  | .str, hm, v :: l, H, us, k, hH, hv, hp, hq => by
    have hlen := hv.len
    match us, hlen with
    | u :: us, _ =>
    have hvu := hv.at_ 0 v u rfl rfl
    have htl : VRs w I ρ HH l us := hv.drop 1
    cases v with
    | dat t x =>
      simp only [packM] at hp
      split at hp
      · rename_i y hy
        cases hp
        obtain ⟨e1, e2⟩ := castD_some hy
        subst e1
        subst e2
        obtain ⟨b, rfl, h1, h2⟩ := hvu.str_inv
        exact ⟨[_], us, [], rfl, htl, ⟨⟨⟨b, rfl, h1, h2⟩, rfl⟩, by simp, fun _ _ h => h, rfl, by simp⟩⟩
      · cases hp
    | _ => simp [packM] at hp

end
end Go.Vee

set_option linter.unusedSimpArgs false
set_option linter.unusedVariables false
namespace Go.Vee
open Go

def putA {α : Type} : List α → Nat → List α → List α
  | cs, _, [] => cs
  | cs, off, v :: vs => putA (cs.set off v) (off + 1) vs
theorem putCs_eq : ∀ (vs cs : List AV) (off : Nat), putCs cs off vs = putA cs off vs
  | [], _, _ => rfl
  | v :: vs, cs, off => by simp [putCs, putA, putCs_eq vs]
theorem putA_length {α : Type} : ∀ (vs cs : List α) (off : Nat), (putA cs off vs).length = cs.length
  | [], _, _ => rfl
  | v :: vs, cs, off => by simp [putA, putA_length vs]

theorem fold_put (off : Nat) : ∀ (l : List Value) (k : Nat) (us : List Value), (l.zipIdx k).foldl (fun (cs : Array Value) q => cs.setIfInBounds (off + q.2) q.1) us.toArray = (putA us (off + k) l).toArray
  | [], k, us => rfl
  | v :: l, k, us => by
    simp only [List.zipIdx_cons, List.foldl_cons, List.setIfInBounds_toArray, putA]
    rw [fold_put off l (k + 1)]
    rfl

section
variable {P : Program} {w0 w : World} {F0 : Bnd} {s : St} {a : Act} {I : Nat → Prop} {ρ : Nat → RC} {H : Heap} {o : Oper} {K : St → Prop} {Q : Exit → Act → World → Prop} {C : World → Prop}

theorem VRs.put : ∀ {vs cs : List AV} {us ds : List Value} {off : Nat}, VRs w I ρ H cs ds → VRs w I ρ H vs us → VRs w I ρ H (putA cs off vs) (putA ds off us)
  | [], cs, [], ds, off, h, k => h
  | v :: vs, cs, u :: us, ds, off, h, k => by
    refine VRs.put (off := off + 1) (cs := cs.set off v) (ds := ds.set off u) ⟨by simp [h.len], fun x hx => ?_, fun i x y hx hy => ?_⟩ (k.drop 1)
    · rcases List.mem_or_eq_of_mem_set hx with hx | rfl
      · exact h.one x hx
      · exact k.one x (by simp)
    · rw [List.getElem?_set] at hx hy
      split at hx
      · rename_i e
        subst e
        simp only [if_true] at hy
        split at hx
        · split at hy
          · cases hx; cases hy; exact k.at_ 0 v u rfl rfl
          · cases hy
        · cases hx
      · rename_i e
        rw [if_neg e] at hy
        exact h.at_ i x y hx hy
  | [], _, _ :: _, _, _, _, k => by have := k.len; simp at this
  | _ :: _, _, [], _, _, _, k => by have := k.len; simp at this

theorem fill_ok {T : Ty} {place : Nat → Option (Nat × Nat)} (hpl : ∀ i g k, fldT T i 0 = some (g, k) → place i = some (k, g.sz)) :
    ∀ {ps : List (Nat × Operand)} {cs cs' : List AV} {us : List Value}, Inv w0 F0 s a w I ρ → VRs w I ρ s.H cs us → us.length = T.sz → fillC T (ps.map fun q => (q.1, Vee.ev Alg.std s q.2)) cs = some cs' →
      ∃ us', Instr.fill place us.toArray (ps.map fun q => (q.1, a.eval q.2)) = some us'.toArray ∧ VRs w I ρ s.H cs' us' ∧ us'.length = T.sz
  | [], cs, cs', us, h, hv, hl, hf => by
    simp [fillC] at hf; subst hf
    exact ⟨us, by simp [Instr.fill], hv, hl⟩
  | (i, x) :: ps, cs, cs', us, h, hv, hl, hf => by
    simp only [List.map_cons, fillC] at hf
    split at hf
    · rename_i g k hg
      split at hf
      · rename_i hfit
        obtain ⟨vs, hu, hlv, hc⟩ := (h.ev x).fit hfit
        rw [putCs_eq] at hf
        have hle := fldT_le hg
        obtain ⟨us', h1, h2, h3⟩ := fill_ok hpl (us := putA us k vs) h (hv.put hc) (by rw [putA_length]; exact hl) hf
        refine ⟨us', ?_, h2, h3⟩
        simp only [List.map_cons, Instr.fill, hpl i g k hg, hu]
        have e1 : ¬ (vs.toArray.size ≠ g.sz ∨ k + vs.toArray.size > us.toArray.size) := by simp [hlv, hl]; omega
        have e2 : ¬ (vs.toArray.size ≠ g.sz || k + vs.toArray.size > us.toArray.size) = true := by simpa using e1
        rw [if_neg e2]
        rw [← h1]
        congr 1
        have := fold_put k vs 0 us
        rw [← Array.foldl_toList, Array.toList_zipIdx]
        simpa using this
      · cases hf
    · cases hf

theorem TyF.places : ∀ {t : Ty} {fs : List Field} {off : Nat}, (TyF P t).2 fs off → ∃ pl : List (Nat × Nat), fs.mapM (fun f => (P.info? f.type).map fun i => (f.offset, i.size)) = some pl ∧ ∀ i g k, fldT t i off = some (g, k) → pl[i]? = some (k, g.sz)
  | .unit, fs, off, h => by
    have : fs = [] := h
    subst this
    exact ⟨[], rfl, fun i g k hf => by simp [fldT] at hf⟩
  | .pair x y, fs, off, h => by
    obtain ⟨f, rest, rfl, h1, h2, h3, h4⟩ := h
    obtain ⟨pl, h5, h6⟩ := TyF.places h4
    obtain ⟨i, hi, hi1, _⟩ := (TyF.base h3).info
    refine ⟨(off, x.sz) :: pl, by simp [hi, h5, h1, hi1], fun j g k hf => ?_⟩
    cases j with
    | zero => simp [fldT] at hf; obtain ⟨rfl, rfl⟩ := hf; rfl
    | succ j => simp only [fldT] at hf; simpa using h6 j g k hf
  | .int _, _, _, h => h.elim
  | .bool, _, _, h => h.elim
  | .str, _, _, h => h.elim
  | .sl _, _, _, h => h.elim

theorem ok_build {t : TypeId} {ps : Array (Nat × Operand)} (τ : Env) (G : Gam) (hE : EnvOk P τ) (h : Inv w0 F0 s a w I ρ) (ho : o.op = .build t ps) (hs : sat (stepOp Alg.std τ G o s) (fun _ s' => K s')) :
    Quiet P o a C (fun a' => Post w0 F0 K a' w) := by
  simp only [stepOp, ho] at hs
  split at hs
  · rename_i T hT
    split at hs
    · rename_i hagg
      split at hs
      · rename_i cs hf
        have hF := hE.ty t T hT
        have core : ∀ fs : Array Field, P.underlying t = some (.struct fs) → (TyF P T).2 fs.toList 0 → T.isAgg = true → Quiet P o a C (fun a' => Post w0 F0 K a' w) := fun fs hu hF2 hA => by
          obtain ⟨pl, hm, hpl⟩ := TyF.places hF2
          obtain ⟨us, h1, h2, h3⟩ := fill_ok (place := (pl.toArray[·]?)) (fun i g k hh => by simpa using hpl i g k hh) h (VRs.zero T) (zeroCs_length T) hf
          refine ok_done (u := .agg us.toArray) h ?_ ?_ hs
          · intro w' _
            have hb : P.built t (ps.map fun q => (q.1, a.eval q.2)).toList = some us.toArray := by
              obtain ⟨i, hi, _, hz, _⟩ := (TyF.base hF).info
              have hc := mkV_cells (zeroCs_length T) (VRs.zero (w := w) (I := I) (ρ := ρ) (H := s.H) T).one
              simp only [Program.built, hi, hu, hz, hm, hc]
              rw [← h1]
              congr 1
              simp
            have := run_build (P := P) w' t (ps.map fun q => (q.1, a.eval q.2)) us.toArray hb
            unfold execOp
            rw [ho]
            simp only [Sem.run_bind, Sem.run_pure]
            rw [this]
            rfl
          · exact .agg cs us h2.len h2.one h2.at_
        cases T with
        | unit => obtain ⟨_, fs, hu, he⟩ := hF; exact core fs hu he rfl
        | pair x y => obtain ⟨_, fs, hu, he⟩ := hF; exact core fs hu he rfl
        | int k => simp [Ty.isAgg] at hagg
        | bool => simp [Ty.isAgg] at hagg
        | str => simp [Ty.isAgg] at hagg
        | sl e => simp [Ty.isAgg] at hagg
      · exact hs.elim
    · exact hs.elim
  · exact hs.elim

end
end Go.Vee

set_option linter.unusedSimpArgs false
set_option linter.unusedVariables false
namespace Go.Vee
open Go

/-- Where no slice lies in it, the mode is not asked. -/
theorem Own.flat {w : World} {I : Nat → Prop} : ∀ {t : Ty} {m : Md} {cs : List Value} {x : t.den} {fp : List Nat}, t.hasSl = false → Own w I t m cs x fp → fp = [] ∧ ∀ (w' : World) (I' : Nat → Prop) (m' : Md), Own w' I' t m' cs x []
  | .int _, _, _, _, _, _, h => ⟨h.2.2, fun _ _ _ => ⟨h.1, h.2.1, rfl⟩⟩
  | .bool, _, _, _, _, _, h => ⟨h.2, fun _ _ _ => ⟨h.1, rfl⟩⟩
  | .str, _, _, _, _, _, h => ⟨h.2, fun _ _ _ => ⟨h.1, rfl⟩⟩
  | .sl e, _, _, _, _, hs, h => by simp [Ty.hasSl] at hs
  | .unit, _, _, _, _, _, h => ⟨h.2, fun _ _ _ => ⟨h.1, rfl⟩⟩
  | .pair a b, m, _, _, _, hs, h => by
    simp only [Ty.hasSl, Bool.or_eq_false_iff] at hs
    obtain ⟨c1, c2, f1, f2, rfl, rfl, h1, h2⟩ := h
    obtain ⟨rfl, g1⟩ := Own.flat hs.1 h1
    obtain ⟨rfl, g2⟩ := Own.flat hs.2 h2
    exact ⟨rfl, fun w' I' m' => ⟨c1, c2, [], [], rfl, rfl, g1 _ _ _, g2 _ _ _⟩⟩

theorem packM_okc : ∀ {t : Ty} {hm : Md} {l : List AV} {H : Heap} {k : Pk t}, packM Alg.std t hm l H = some k → ∃ pre, l = pre ++ k.l ∧ pre.length = t.sz ∧ ∀ v ∈ pre, okc v = true
  | .unit, hm, l, H, k, h => by simp [packM] at h; subst h; exact ⟨[], by simp [Ty.sz]⟩
  | .pair a b, hm, l, H, k, h => by
    simp only [packM] at h
    split at h
    · rename_i k1 h1
      split at h
      · rename_i k2 h2
        cases h
        obtain ⟨p1, e1, l1, o1⟩ := packM_okc h1
        obtain ⟨p2, e2, l2, o2⟩ := packM_okc h2
        refine ⟨p1 ++ p2, ?_, by simp [Ty.sz, l1, l2], fun v hv => (List.mem_append.1 hv).elim (o1 v) (o2 v)⟩
        change l = (p1 ++ p2) ++ k2.l
        rw [e1, e2, List.append_assoc]
      · cases h
    · cases h
  | .sl e, hm, [], H, k, h => by simp [packM] at h
  | .sl e, hm, v :: l, H, k, h => by
    simp only [packM] at h
    split at h
    · split at h
      · cases h; exact ⟨[_], rfl, rfl, by simp [okc]⟩
      · cases h
    · cases h; exact ⟨[_], rfl, rfl, by simp [okc]⟩
    · split at h
      · split at h
        · cases h; exact ⟨[_], rfl, rfl, by simp [okc]⟩
        · cases h
      · cases h
    · cases h
  | .int k0, hm, [], H, k, h => by simp [packM] at h
  | .int k0, hm, v :: l, H, k, h => by
    cases v with
    | dat t x =>
      simp only [packM] at h
      split at h
      · cases h; exact ⟨[_], rfl, rfl, by simp [okc]⟩
      · cases h
    | _ => simp [packM] at h
  | .bool, hm, [], H, k, h => by simp [packM] at h
  | .bool, hm, v :: l, H, k, h => by
    cases v with
    | dat t x =>
      simp only [packM] at h
      split at h
      · cases h; exact ⟨[_], rfl, rfl, by simp [okc]⟩
      · cases h
    | lb b => simp [packM] at h; subst h; exact ⟨[_], rfl, rfl, by simp [okc]⟩
    | _ => simp [packM] at h
  | .str, hm, [], H, k, h => by simp [packM] at h
  | .str, hm, v :: l, H, k, h => by
    cases v with
    | dat t x =>
      simp only [packM] at h
      split at h
      · cases h; exact ⟨[_], rfl, rfl, by simp [okc]⟩
      · cases h
    | _ => simp [packM] at h

section
variable {P : Program} {w0 w : World} {F0 : Bnd} {s : St} {a : Act} {I : Nat → Prop} {ρ : Nat → RC} {H : Heap} {o : Oper} {K : St → Prop} {Q : Exit → Act → World → Prop}

/-- A value that packs: its cells. -/
theorem VR.packed {v : AV} {u : Value} {t : Ty} {hm : Md} {HH : Heap} {k : Pk t} (h : VR w I ρ HH v u) (hp : packM Alg.std t hm (cellsOf v) H = some k) (hl : k.l = []) : ∃ us, u.cells = us.toArray ∧ us.length = t.sz ∧ VRs w I ρ HH (cellsOf v) us := by
  obtain ⟨pre, e, l, ok⟩ := packM_okc hp
  rw [hl, List.append_nil] at e
  obtain ⟨us, h1, h2⟩ := h.cells (by rw [e]; simpa using ok)
  exact ⟨us, h1, by rw [← h2.len, e, l], h2⟩

/-- A row made out of packed parts and of new memory. -/
theorem Inv.newRow (h : Inv w0 F0 s a w I ρ) {w' : World} {H' : Heap} (hsub : ∀ r o, hget H' r = some o → hget s.H r = some o) (hlen : H'.length = s.H.length)
    (e : Ty) (m : Md) (xs : List e.den) (hdr : Value) (fp : List Nat) (hk : Keeps (fun b => b ∈ fp) w w') (ho : Own w' I (.sl e) (.ow m) [hdr] xs fp) (hnd : fp.Nodup)
    (hsrc : ∀ b ∈ fp, w.heap.size ≤ b ∨ ∃ r o, hget s.H r = some o ∧ hget H' r = none ∧ b ∈ tfp ρ r o) :
    ∃ ρ', Inv w0 F0 ⟨s.fr, H' ++ [some (.row 0 e m xs)]⟩ a w' I ρ' ∧ VR w' I ρ' (H' ++ [some (.row 0 e m xs)]) (.ref e H'.length 0 [] 0 xs.length) hdr := by
  have h' := h.sub hsub (Nat.le_of_eq hlen.symm)
  refine h'.addRow e m xs hdr fp hk ho hnd fun b hb => ?_
  rcases hsrc b hb with hn | ⟨r, o, g1, g2, g3⟩
  · refine ⟨fun hh => absurd (h.imm b hh) (by omega), .inl (Nat.le_trans h.size hn), fun r o hr hb => absurd (h'.sep r o hr b hb).2.1 (by omega)⟩
  · obtain ⟨q1, q2, q3⟩ := h.sep r o g1 b g3
    refine ⟨q1, q3, fun r' o' hr' hb' => ?_⟩
    have hne : r ≠ r' := by rintro rfl; rw [g2] at hr'; cases hr'
    exact h.disj r o r' o' hne g1 (hsub _ _ hr') b g3 hb'

/-- Elements packed. -/
structure PackedL (w : World) (I : Nat → Prop) (ρ : Nat → RC) (H H' : Heap) (e : Ty) (m : Md) (xs : List e.den) (cells : List Value) (fps : List (List Nat)) : Prop where
  len : cells.length = xs.length * e.sz
  fl : fps.length = xs.length
  own : ∀ j (h : j < xs.length), Own w I e m ((cells.drop (j * e.sz)).take e.sz) (xs[j]'h) (fps.getD j [])
  nd : fps.flatten.Nodup
  sub : ∀ r o, hget H' r = some o → hget H r = some o
  hl : H'.length = H.length
  src : ∀ b ∈ fps.flatten, ∃ r o, hget H r = some o ∧ hget H' r = none ∧ b ∈ tfp ρ r o
  one : ∀ u ∈ cells, u.oneCell' = true

theorem PackedL.cast {e : Ty} {m m' : Md} {H' : Heap} {xs : List e.den} {cells : List Value} {fps : List (List Nat)} (h : PackedL w I ρ H H' e m xs cells fps) (hs : e.hasSl = false ∨ m' = m) : PackedL w I ρ H H' e m' xs cells fps := by
  rcases hs with hs | rfl
  · refine { h with own := fun j hj => ?_ }
    obtain ⟨h1, h2⟩ := (h.own j hj).flat hs
    rw [h1]
    exact h2 _ _ _
  · exact h

theorem joinM_some {e : Ty} {m n k : Md} (h : joinM e m n = some k) : (e.hasSl = false ∨ k = m) ∧ (e.hasSl = false ∨ k = n) := by
  unfold joinM at h
  split at h
  · split at h
    · rename_i e; cases h; subst e; exact ⟨.inr rfl, .inr rfl⟩
    · cases h
  · rename_i hs
    exact ⟨.inl (by simpa using hs), .inl (by simpa using hs)⟩

theorem PackedL.nil {e : Ty} {m : Md} : PackedL w I ρ H H e m [] [] [] := ⟨by simp, rfl, by simp, by simp, fun _ _ h => h, rfl, by simp, by simp⟩

theorem PackedL.cons {HH H H1 H2 : Heap} (R : Roots w I ρ HH) (hH : ∀ r o, hget H r = some o → hget HH r = some o) {e : Ty} {m : Md} {x : e.den} {xs : List e.den} {us cells : List Value} {fp : List Nat} {fps : List (List Nat)} (h1 : ∀ u ∈ us, u.oneCell' = true)
    (p : Packed w I ρ H H1 e m x us fp) (q : PackedL w I ρ H1 H2 e m xs cells fps) : PackedL w I ρ H H2 e m (x :: xs) (us ++ cells) (fp :: fps) := by
  have hl := p.own.len
  refine ⟨by simp [hl, q.len, Nat.add_mul, Nat.add_comm], by simp [q.fl], fun j hj => ?_, ?_, fun r o hr => p.sub r o (q.sub r o hr), q.hl.trans p.len, fun b hb => ?_, fun u hu => (List.mem_append.1 hu).elim (h1 u) (q.one u)⟩
  · cases j with
    | zero => simp only [Nat.zero_mul, List.drop_zero, List.take_left' hl]; exact p.own
    | succ j =>
      have : ((us ++ cells).drop ((j + 1) * e.sz)).take e.sz = (cells.drop (j * e.sz)).take e.sz := by
        rw [List.drop_append, List.drop_eq_nil_of_le (by rw [hl, Nat.add_mul]; omega), List.nil_append]
        congr 2
        rw [hl, Nat.add_mul]; omega
      rw [this]
      exact q.own j (by simpa using hj)
  · rw [List.flatten_cons, List.nodup_append]
    refine ⟨p.nd, q.nd, fun b hb c hc hbc => ?_⟩
    subst hbc
    obtain ⟨r, o, g1, g2, g3⟩ := p.src b hb
    obtain ⟨r', o', g4, g5, g6⟩ := q.src b hc
    have hne : r ≠ r' := by rintro rfl; rw [g2] at g4; cases g4
    exact R.disj r o r' o' hne (hH _ _ g1) (hH _ _ (p.sub _ _ g4)) b g3 g6
  · rw [List.flatten_cons] at hb
    rcases List.mem_append.1 hb with hb | hb
    · obtain ⟨r, o, g1, g2, g3⟩ := p.src b hb
      refine ⟨r, o, g1, ?_, g3⟩
      cases hk : hget H2 r with
      | none => rfl
      | some o' => have := q.sub r o' hk; rw [g2] at this; cases this
    · obtain ⟨r, o, g1, g2, g3⟩ := q.src b hb
      exact ⟨r, o, p.sub r o g1, g2, g3⟩

theorem packEs_spec {HH : Heap} (R : Roots w I ρ HH) {e : Ty} : ∀ {vs : List AV} {us : List Value} {H : Heap} {m : Md} {xs : List e.den} {H' : Heap} {ps : List Prop},
    (∀ r o, hget H r = some o → hget HH r = some o) → vs.length = us.length → (∀ (i : Nat) (v : AV) (u : Value), vs[i]? = some v → us[i]? = some u → VR w I ρ HH v u) →
    packEs Alg.std e vs H = some (m, xs, H', ps) → (∀ p ∈ ps, p) →
    ∃ (cs : List (List Value)) (fps : List (List Nat)), us.map (·.cells) = cs.map (·.toArray) ∧ (∀ c ∈ cs, c.length = e.sz) ∧ xs.length = vs.length ∧ PackedL w I ρ H H' e m xs cs.flatten fps
  | [], us, H, m, xs, H', ps, hH, hl, hv, hp, hq => by
    simp [packEs] at hp
    obtain ⟨rfl, rfl, rfl, rfl⟩ := hp
    have : us = [] := List.eq_nil_of_length_eq_zero (by simpa using hl.symm)
    subst this
    exact ⟨[], [], rfl, by simp, rfl, PackedL.nil⟩
  | v :: vs, [], H, m, xs, H', ps, hH, hl, hv, hp, hq => by simp at hl
  | v :: vs, u :: us, H, m, xs, H', ps, hH, hl, hv, hp, hq => by
    simp only [packEs] at hp
    split at hp
    · rename_i m1 x1 H1 p1 hk
      have hvu := hv 0 v u rfl rfl
      obtain ⟨c, hc, hcl, hcv⟩ := hvu.packed hk rfl
      have base : (∀ p ∈ p1, p) → ∃ fp, Packed w I ρ H H1 e m1 x1 c fp := fun hpp => by
        obtain ⟨u1, u2, fp, e1, hv2, pk⟩ := packM_spec HH R hH hcv hk hpp
        have hu2 : u2 = [] := List.eq_nil_of_length_eq_zero (by have := hv2.len; simpa using this.symm)
        subst hu2
        rw [List.append_nil] at e1
        subst e1
        exact ⟨fp, pk⟩
      split at hp
      · cases hp
        obtain ⟨fp, pk⟩ := base hq
        have : us = [] := List.eq_nil_of_length_eq_zero (by simpa using hl.symm)
        subst this
        refine ⟨[c], [fp], by simp [hc], by simpa using hcl, rfl, ?_⟩
        have := PackedL.cons R hH hcv.one pk PackedL.nil
        simpa using this
      · rename_i v2 vs'
        split at hp
        · rename_i m' xs' H2 q hk2
          split at hp
          · rename_i mj hj
            cases hp
            obtain ⟨fp, pk⟩ := base fun p hp => hq p (by simp [hp])
            obtain ⟨cs, fps, g1, g2, g3, g4⟩ := packEs_spec R (us := us) (fun r o h => hH r o (pk.sub r o h)) (by simpa using hl) (fun i v u h1 h2 => hv (i + 1) v u (by simpa using h1) (by simpa using h2)) hk2 (fun p hp => hq p (by simp [hp]))
            obtain ⟨j1, j2⟩ := joinM_some hj
            refine ⟨c :: cs, fp :: fps, by simp [hc, g1], by simpa [hcl] using g2, by simp [g3], ?_⟩
            have pk' : Packed w I ρ H H1 e m x1 c fp := by
              rcases j1 with hs | rfl
              · obtain ⟨f0, f1⟩ := pk.own.flat hs
                exact { pk with own := by rw [f0]; exact f1 _ _ _ }
              · exact pk
            have := PackedL.cons R hH hcv.one pk' (g4.cast j2)
            simpa using this
          · cases hp
        · cases hp
    · cases hp

end
end Go.Vee

set_option linter.unusedSimpArgs false
set_option linter.unusedVariables false
namespace Go.Vee
open Go

theorem putA_pre {α : Type} : ∀ (c pre rest : List α), c.length ≤ rest.length → putA (pre ++ rest) pre.length c = pre ++ c ++ rest.drop c.length
  | [], pre, rest, _ => by simp [putA]
  | x :: c, pre, [], h => by simp at h
  | x :: c, pre, y :: rest, h => by
    simp only [putA]
    have : (pre ++ y :: rest).set pre.length x = (pre ++ [x]) ++ rest := by simp
    rw [this]
    have := putA_pre c (pre ++ [x]) rest (by simpa using h)
    simp only [List.length_append, List.length_cons, List.length_nil, Nat.zero_add] at this
    rw [this]
    simp

theorem fill_all {size : Nat} : ∀ (vals : List Value) (cs : List (List Value)) (k : Nat) (pre rest : List Value), vals.map (·.cells) = cs.map (·.toArray) → (∀ c ∈ cs, c.length = size) → pre.length = k * size → rest.length = cs.length * size →
    Instr.fill (fun i => some (i * size, size)) (pre ++ rest).toArray ((List.range' k cs.length).zip vals) = some (pre ++ cs.flatten).toArray
  | [], [], k, pre, rest, _, _, _, hr => by
    have : rest = [] := List.eq_nil_of_length_eq_zero (by simpa using hr)
    simp [Instr.fill, this]
  | [], _ :: _, _, _, _, h, _, _, _ => by simp at h
  | _ :: _, [], _, _, _, h, _, _, _ => by simp at h
  | v :: vals, c :: cs, k, pre, rest, h, hc, hp, hr => by
    simp only [List.map_cons, List.cons.injEq] at h
    have hcl := hc c (by simp)
    have hrl : rest.length = size + cs.length * size := by rw [hr]; simp [Nat.add_mul, Nat.add_comm]
    simp only [List.length_cons, List.range'_succ, List.zip_cons_cons, Instr.fill, h.1]
    have e1 : ¬ (c.toArray.size ≠ size || k * size + c.toArray.size > (pre ++ rest).toArray.size) = true := by simp [hcl, hp, hrl]
    rw [if_neg e1]
    have hf := fold_put (k * size) c 0 (pre ++ rest)
    rw [← Array.foldl_toList, Array.toList_zipIdx]
    have e2 : ((pre ++ rest).toArray.toList) = pre ++ rest := by simp
    simp only [Nat.add_zero] at hf
    have e3 : putA (pre ++ rest) (k * size) c = (pre ++ c) ++ rest.drop c.length := by
      rw [← hp]; exact putA_pre c pre rest (by omega)
    rw [e3] at hf
    rw [hf]
    have := fill_all vals cs (k + 1) (pre ++ c) (rest.drop c.length) h.2 (fun x hx => hc x (by simp [hx])) (by simp [hp, hcl, Nat.add_mul]) (by simp [hrl, hcl])
    rw [this]
    simp

theorem bnd_pos : ∀ {t : Ty}, 0 < t.sz → 8 ≤ t.bnd
  | .int _, _ => by simp [Ty.bnd]
  | .bool, _ => by simp [Ty.bnd]
  | .str, _ => by simp [Ty.bnd]
  | .sl _, _ => by simp [Ty.bnd]
  | .unit, h => by simp [Ty.sz] at h
  | .pair a b, h => by
    simp only [Ty.sz] at h
    simp only [Ty.bnd]
    rcases Nat.eq_zero_or_pos a.sz with h0 | h0
    · have := bnd_pos (t := b) (by omega); omega
    · have := bnd_pos h0; omega

section
variable {P : Program} {w0 w : World} {F0 : Bnd} {s : St} {a : Act} {I : Nat → Prop} {ρ : Nat → RC} {H : Heap} {o : Oper} {K : St → Prop} {Q : Exit → Act → World → Prop}

theorem seg_append_left {l k : List Value} {i n : Nat} (h : i + n ≤ l.length) : seg (l ++ k).toArray i n = (l.drop i).take n := by
  simp only [seg]
  rw [List.drop_append_of_le_length (by omega), List.take_append_of_le_length (by simp; omega)]

/-- A new block made a row. -/
theorem ok_newRow {H' : Heap} {e : Ty} {m : Md} {xs : List e.den} {cells : List Value} {fps : List (List Nat)} {w1 : World} {rest : List Value} {et : TypeId} {c : Nat} (h : Inv w0 F0 s a w I ρ)
    (hp : PackedL w I ρ s.H H' e m xs cells fps) (hw1 : Keeps (fun _ => False) w w1) (hsz : w1.heap.size = w.heap.size)
    (hc : xs.length ≤ c) (hcm : c ≤ maxLen) (hr : (cells ++ rest).length = c * e.sz)
    (hrun : (execOp a.eval o).run P w = .ok (.value (.slice (some ⟨w.heap.size, 0, none⟩) xs.length c)) (w1.alloc (.cells (cells ++ rest).toArray et)))
    (hs : sat (doneH s (H' ++ [some (.row 0 e m xs)]) o.dst (.ref e H'.length 0 [] 0 xs.length)) (fun _ s' => K s')) : o.wp P a w (Post w0 F0 K) Q := by
  have hkk : Keeps (fun _ => False) w (w1.alloc (.cells (cells ++ rest).toArray et)) := hw1.trans (Keeps.alloc _ _ _)
  have hold : ∀ b, b < w.heap.size → (w1.alloc (.cells (cells ++ rest).toArray et)).heap[b]? = w.heap[b]? := fun b hb => hkk.block b hb (fun h => h)
  have hnew : (w1.alloc (.cells (cells ++ rest).toArray et)).heap[w.heap.size]? = some (.cells (cells ++ rest).toArray et (0, 0)) := by rw [← hsz]; exact heap_alloc_new w1 _
  have hfl : ∀ b ∈ fps.flatten, b < w.heap.size := fun b hb => by
    obtain ⟨r, o, g1, _, g3⟩ := hp.src b hb
    exact (h.sep r o g1 b g3).2.1
  have hown : Own (w1.alloc (.cells (cells ++ rest).toArray et)) I (.sl e) (.ow m) [.slice (some ⟨w.heap.size, 0, none⟩) xs.length c] xs (w.heap.size :: fps.flatten) := by
    refine ⟨by simp only [maxLen] at hcm; omega, .inr ⟨w.heap.size, c, _, et, fps, rfl, hnew, hc, hcm, by simpa using hr, hp.fl, rfl, fun j hj => ?_⟩⟩
    rw [seg_append_left]
    · refine Own.frame (fun b hb => hold b (h.imm b hb)) (fun _ h => h) (hp.own j hj) fun b hb => hold b (hfl b (mem_flatten_getD.2 ⟨j, hb⟩))
    · rw [hp.len]
      have : (j + 1) * e.sz ≤ xs.length * e.sz := Nat.mul_le_mul_right _ hj
      rwa [Nat.add_mul, Nat.one_mul] at this
  obtain ⟨ρ', h1, h2⟩ := h.newRow hp.sub hp.hl e m xs _ _ (hkk.mono fun _ _ h => h.elim) hown (by
      rw [List.nodup_cons]; exact ⟨fun hh => absurd (hfl _ hh) (Nat.lt_irrefl _), hp.nd⟩) (fun b hb => by
      rcases List.mem_cons.1 hb with rfl | hb
      · exact .inl (Nat.le_refl _)
      · exact .inr (hp.src b hb))
  exact wp_val hrun ⟨_, I, ρ', h1.put h2 o.dst, hs⟩

theorem PackedL.none {e : Ty} : PackedL w I ρ H H e e.deep [] [] [] := PackedL.nil

theorem ok_buildSlice {t : TypeId} {len : Nat} {ps : Array (Nat × Operand)} (τ : Env) (G : Gam) (hE : EnvOk P τ) (h : Inv w0 F0 s a w I ρ) (ho : o.op = .buildSlice t len ps) (hs : sat (stepOp Alg.std τ G o s) (fun _ s' => K s')) :
    o.wp P a w (Post w0 F0 K) Q := by
  simp only [stepOp, ho] at hs
  split at hs
  · rename_i e hT
    split at hs
    · rename_i hlen
      obtain ⟨hidx, hfit⟩ := hlen
      split at hs
      · rename_i m xs H' pp hpk
        rw [sat_needs] at hs
        obtain ⟨hq, hs⟩ := hs
        obtain ⟨eid, hun, hF, hsz⟩ := TyF.sl (hE.ty t _ hT)
        obtain ⟨cs, fps, g1, g2, g3, g4⟩ := packEs_spec h.rootsOf (us := ps.toList.map fun q => a.eval q.2) (fun _ _ h => h) (by simp) (fun i v u hv hu => by
          simp only [List.getElem?_map] at hv hu
          cases hc : ps.toList[i]? with
          | none => simp [hc] at hv
          | some x =>
            simp only [hc, Option.map_some, Option.some.injEq] at hv hu
            subst hv
            subst hu
            exact h.ev x.2) hpk hq
        have hpl : ps.toList.length = len := by have := congrArg List.length hidx; simpa using this
        have hxl : xs.length = len := by rw [g3]; simpa using hpl
        have hcl : cs.length = len := by have := congrArg List.length g1; simp at this; rw [← this]; simpa using hpl
        have hz := mkV_cells (zeroCs_length e) (VRs.zero (w := w) (I := I) (ρ := ρ) (H := s.H) e).one
        have hfill : Instr.fill (fun i => some (i * e.sz, e.sz)) ((Array.range (len * e.sz)).map ((zeroCs e).toArray[· % (zeroCs e).toArray.size]!)) (ps.map fun q => (q.1, a.eval q.2)).toList = some cs.flatten.toArray := by
          have hh := fill_all (size := e.sz) (ps.toList.map fun q => a.eval q.2) cs 0 [] (((Array.range (len * e.sz)).map ((zeroCs e).toArray[· % (zeroCs e).toArray.size]!)).toList) g1 g2 (by simp) (by simp [hcl])
          simp only [List.nil_append, Array.toArray_toList] at hh
          rw [← hh]
          congr 1
          rw [hcl, ← List.range_eq_range', ← hidx, Array.toList_map, List.zip_map']
        have hlz : ¬ (16777216 < len * e.sz) := by omega
        refine ok_newRow (rest := []) (w1 := w) (et := eid) (c := len) h g4 (Keeps.refl _ _) rfl (by omega) ?_ (by rw [List.append_nil, g4.len, hxl]) ?_ ?_
        · simp only [maxLen]
          have : len * 1 ≤ len * e.sz := Nat.mul_le_mul_left _ hsz
          omega
        · have hrun : (Instr.buildSlice t len (ps.map fun q => (q.1, a.eval q.2))).run P w = .ok (.slice (some ⟨w.heap.size, 0, none⟩) len len) (w.alloc (.cells cs.flatten.toArray eid)) := by
            by_cases h0 : len * e.sz = 0
            · have hl0 : len = 0 := by rcases Nat.mul_eq_zero.1 h0 with h | h <;> omega
              subst hl0
              have : ps = #[] := by
                apply Array.eq_empty_of_size_eq_zero
                simpa using hpl
              subst this
              have hcs : cs = [] := List.eq_nil_of_length_eq_zero hcl
              subst hcs
              simp [Instr.buildSlice, run_underlying hun, run_sizeOf (TyF.base hF), Instr.fill, newRow, Array.range_zero']
            · simp at hfill
              simp [Instr.buildSlice, run_underlying hun, run_sizeOf (TyF.base hF), run_zeroValue (TyF.base hF), hlz, h0, hz, newRow, hfill]
          unfold execOp
          rw [ho]
          simp only [Sem.run_bind, Sem.run_pure]
          rw [hrun, hxl]
          simp
        · rw [g4.hl]
          rw [g4.hl] at hs
          rw [hxl]
          exact hs
      · exact hs.elim
    · exact hs.elim
  · exact hs.elim

/-! ## make -/
theorem Own.zero {w : World} {I : Nat → Prop} : ∀ {t : Ty}, Own w I t t.deep (zeroCs t) t.dflt []
  | .int k => ⟨rfl, by cases k <;> simp [IntKind.min, IntKind.max, IntKind.signed, IntKind.bits, Ty.dflt], rfl⟩
  | .bool => ⟨rfl, rfl⟩
  | .str => ⟨⟨.empty, rfl, rfl, Nat.zero_le _⟩, rfl⟩
  | .sl e => ⟨Nat.zero_le _, .inl ⟨rfl, rfl, rfl⟩⟩
  | .unit => ⟨rfl, rfl⟩
  | .pair a b => ⟨zeroCs a, zeroCs b, [], [], rfl, rfl, Own.zero (t := a), Own.zero (t := b)⟩

theorem madeCells_seg {z : List Value} {n j : Nat} (hj : j < n) : ((madeCells z.toArray (n * z.length)).toList.drop (j * z.length)).take z.length = z := by
  apply List.ext_getElem?
  intro i
  by_cases hi : i < z.length
  · rw [List.getElem?_take, if_pos hi, List.getElem?_drop]
    have hlt : j * z.length + i < n * z.length := by
      have : (j + 1) * z.length ≤ n * z.length := Nat.mul_le_mul_right _ hj
      rw [Nat.add_mul, Nat.one_mul] at this
      omega
    have e : (j * z.length + i) % z.length = i := by rw [Nat.mul_comm, Nat.mul_add_mod, Nat.mod_eq_of_lt hi]
    simp [madeCells, hlt, e, hi]
  · rw [List.getElem?_take, if_neg hi, List.getElem?_eq_none (by omega)]

theorem PackedL.zero {e : Ty} (n : Nat) : PackedL w I ρ H H e e.deep (List.replicate n e.dflt) (madeCells (zeroCs e).toArray (n * e.sz)).toList (List.replicate n []) := by
  have hz := zeroCs_length e
  refine ⟨by simp [size_madeCells], by simp, fun j hj => ?_, ?_, fun _ _ h => h, rfl, ?_, fun u hu => ?_⟩
  · have hj' : j < n := by simpa using hj
    have := madeCells_seg (z := zeroCs e) hj'
    rw [hz] at this
    rw [this]
    have e2 : (List.replicate n ([] : List Nat)).getD j [] = [] := by simp [List.getD_eq_getElem?_getD, List.getElem?_replicate]; split <;> rfl
    rw [e2]
    simpa using Own.zero
  · have : (List.replicate n ([] : List Nat)).flatten = [] := by simp
    rw [this]; simp
  · have : (List.replicate n ([] : List Nat)).flatten = [] := by simp
    rw [this]; simp
  · simp only [madeCells, Array.toList_map, List.mem_map] at hu
    obtain ⟨i, hi, rfl⟩ := hu
    have hi' : i < n * e.sz := by simpa using hi
    have hp : 0 < e.sz := by rcases Nat.eq_zero_or_pos e.sz with h | h; · rw [h] at hi'; simp at hi'
                             · exact h
    have hm : i % (zeroCs e).length < (zeroCs e).length := Nat.mod_lt _ (by omega)
    simp [hm]
    exact (VRs.zero (w := w) (I := I) (ρ := ρ) (H := H) e).one _ (List.getElem_mem hm)

theorem ok_makeSlice {t : TypeId} {n c : Operand} (τ : Env) (G : Gam) (hE : EnvOk P τ) (h : Inv w0 F0 s a w I ρ) (ho : o.op = .makeSlice t n c) (hs : sat (stepOp Alg.std τ G o s) (fun _ s' => K s')) :
    o.wp P a w (Post w0 F0 K) Q := by
  simp only [stepOp, ho] at hs
  split at hs
  · rename_i e ni ci hT hn hc
    obtain ⟨rfl, ⟨h0, hroom⟩, hs⟩ := hs
    obtain ⟨eid, hun, hF, hsz⟩ := TyF.sl (hE.ty t _ hT)
    obtain ⟨kn, hn, _⟩ := (h.ev n).intOf hn
    obtain ⟨kc, hc, _⟩ := (h.ev c).intOf hc
    obtain ⟨i, hi, hi1, hi2, hi3⟩ := (TyF.base hF).info
    have hb := bnd_pos hsz
    have hnat : ((ni.toNat : Nat) : Int) = ni := Int.toNat_of_nonneg h0
    have hsmall : ni ≤ 140737488355328 := by
      have : ni * 1 ≤ ni * (e.bnd : Int) := Int.mul_le_mul_of_nonneg_left (by omega) h0
      omega
    have hby : (i.bytes : Int) * ni ≤ 281474976710656 := by
      have : ni * (i.bytes : Int) ≤ ni * (e.bnd : Int) := Int.mul_le_mul_of_nonneg_left (by omega) h0
      rw [Int.mul_comm] at this
      omega
    have hz := mkV_cells (zeroCs_length e) (VRs.zero (w := w) (I := I) (ρ := ρ) (H := s.H) e).one
    have hr := run_make (P := P) w t eid i _ hun hi hi2 kn kc ni ni h0 (Int.le_refl _) hby (by omega)
    rw [hz, hi1] at hr
    refine ok_newRow (rest := []) (w1 := w) (et := eid) (c := ni.toNat) h (PackedL.zero (e := e) ni.toNat) (Keeps.refl _ _) rfl (by simp) (by simp only [maxLen]; omega) (by simp [size_madeCells]) ?_ ?_
    · unfold execOp
      rw [ho]
      simp only [Sem.run_bind, Sem.run_pure, hn, hc]
      rw [hr]
      simp
    · simpa [Alg.std] using hs
  · exact hs.elim

end
end Go.Vee

set_option linter.unusedSimpArgs false
set_option linter.unusedVariables false
namespace Go.Vee
open Go

theorem Own.sh_fp {w : World} {I : Nat → Prop} : ∀ {t : Ty} {cs : List Value} {x : t.den} {fp : List Nat}, Own w I t .sh cs x fp → fp = []
  | .int _, _, _, _, h => h.2.2
  | .bool, _, _, _, h => h.2
  | .str, _, _, _, h => h.2
  | .sl e, _, _, _, h => h.2.1
  | .unit, _, _, _, h => h.2
  | .pair a b, _, _, _, h => by
    obtain ⟨c1, c2, f1, f2, rfl, rfl, h1, h2⟩ := h
    rw [Own.sh_fp (t := a) h1, Own.sh_fp (t := b) h2]; rfl

theorem segs_one {l : List Value} {n sz : Nat} (hl : l.length = n * sz) (h : ∀ j, j < n → ∀ u ∈ (l.drop (j * sz)).take sz, u.oneCell' = true) : ∀ u ∈ l, u.oneCell' = true := by
  intro u hu
  obtain ⟨i, hi, rfl⟩ := List.getElem_of_mem hu
  have hp : 0 < sz := by rcases Nat.eq_zero_or_pos sz with h0 | h0; · rw [h0] at hl; simp at hl; rw [hl] at hi; simp at hi
                         · exact h0
  have hj : i / sz < n := by rw [Nat.div_lt_iff_lt_mul hp, ← hl]; exact hi
  refine h (i / sz) hj _ ?_
  have hm : i / sz * sz + i % sz = i := by rw [Nat.mul_comm]; exact Nat.div_add_mod i sz
  have hlt := Nat.mod_lt i hp
  refine List.mem_iff_getElem?.2 ⟨i % sz, ?_⟩
  rw [List.getElem?_take, if_pos hlt, List.getElem?_drop, hm]
  simp [hi]

section
variable {P : Program} {w0 w : World} {F0 : Bnd} {s : St} {a : Act} {I : Nat → Prop} {ρ : Nat → RC} {H : Heap} {o : Oper} {K : St → Prop} {Q : Exit → Act → World → Prop}

theorem PackedL.append {HH H H1 H2 : Heap} (R : Roots w I ρ HH) (hH : ∀ r o, hget H r = some o → hget HH r = some o) {e : Ty} {m : Md} {xs ys : List e.den} {cx cy : List Value} {fx fy : List (List Nat)}
    (p : PackedL w I ρ H1 H2 e m xs cx fx) (q : PackedL w I ρ H H1 e m ys cy fy) : PackedL w I ρ H H2 e m (xs ++ ys) (cx ++ cy) (fx ++ fy) := by
  have hl := p.len
  refine ⟨by simp [hl, q.len, Nat.add_mul], by simp [p.fl, q.fl], fun j hj => ?_, ?_, fun r o hr => q.sub r o (p.sub r o hr), p.hl.trans q.hl, fun b hb => ?_, fun u hu => (List.mem_append.1 hu).elim (p.one u) (q.one u)⟩
  · by_cases hjx : j < xs.length
    · have e1 : ((cx ++ cy).drop (j * e.sz)).take e.sz = (cx.drop (j * e.sz)).take e.sz := by
        have : (j + 1) * e.sz ≤ xs.length * e.sz := Nat.mul_le_mul_right _ hjx
        rw [Nat.add_mul, Nat.one_mul] at this
        rw [List.drop_append_of_le_length (by omega), List.take_append_of_le_length (by simp; omega)]
      have e2 : (fx ++ fy).getD j [] = fx.getD j [] := by
        simp only [List.getD_eq_getElem?_getD]
        rw [List.getElem?_append_left (by rw [p.fl]; exact hjx)]
      rw [e1, e2, List.getElem_append_left hjx]
      exact p.own j hjx
    · have hjy : j - xs.length < ys.length := by simp at hj; omega
      have e1 : ((cx ++ cy).drop (j * e.sz)).take e.sz = (cy.drop ((j - xs.length) * e.sz)).take e.sz := by
        have : j * e.sz = xs.length * e.sz + (j - xs.length) * e.sz := by rw [← Nat.add_mul]; congr 1; omega
        rw [List.drop_append, List.drop_eq_nil_of_le (by rw [hl]; exact Nat.mul_le_mul_right _ (by omega)), List.nil_append]
        congr 2
        omega
      have e2 : (fx ++ fy).getD j [] = fy.getD (j - xs.length) [] := by
        simp only [List.getD_eq_getElem?_getD]
        rw [List.getElem?_append_right (by rw [p.fl]; omega), p.fl]
      rw [e1, e2, List.getElem_append_right (by omega)]
      exact q.own _ hjy
  · rw [List.flatten_append, List.nodup_append]
    refine ⟨p.nd, q.nd, fun b hb c hc hbc => ?_⟩
    subst hbc
    obtain ⟨r, o, g1, g2, g3⟩ := p.src b hb
    obtain ⟨r', o', g4, g5, g6⟩ := q.src b hc
    have hne : r ≠ r' := by rintro rfl; rw [g1] at g5; cases g5
    exact R.disj r o r' o' hne (hH _ _ (q.sub _ _ g1)) (hH _ _ g4) b g3 g6
  · rw [List.flatten_append] at hb
    rcases List.mem_append.1 hb with hb | hb
    · obtain ⟨r, o, g1, g2, g3⟩ := p.src b hb
      exact ⟨r, o, q.sub r o g1, g2, g3⟩
    · obtain ⟨r, o, g1, g2, g3⟩ := q.src b hb
      refine ⟨r, o, g1, ?_, g3⟩
      cases hk : hget H2 r with
      | none => rfl
      | some o' => have := p.sub r o' hk; rw [g2] at this; cases this

/-- A row's parts: its block, its elements. -/
theorem row_parts {r v : Nat} {e : Ty} {m : Md} {xs : List e.den} (R : Roots w I ρ H) (hr : hget H r = some (.row v e m xs)) :
    ((ρ r).hdr = .slice none 0 0 ∧ xs = [] ∧ (ρ r).fp = [] ∧ PackedL w I ρ H (H.set r none) e m xs [] []) ∨
    ∃ g c cur et fps, (ρ r).hdr = .slice (some ⟨g, 0, none⟩) xs.length c ∧ w.heap[g]? = some (.cells cur et (0, 0)) ∧ xs.length ≤ c ∧ c ≤ maxLen ∧ cur.size = c * e.sz ∧ (ρ r).fp = g :: fps.flatten ∧ g ∉ fps.flatten ∧
      PackedL w I ρ H (H.set r none) e m xs (cur.toList.take (xs.length * e.sz)) fps := by
  have hown : Own w I (.sl e) (.ow m) [(ρ r).hdr] xs (ρ r).fp := R.ok r _ hr
  have hnd : (ρ r).fp.Nodup := R.nodup r _ hr
  have hsub : ∀ k o, hget (H.set r none) k = some o → hget H k = some o := fun k o hk => by
    rw [hget_set_none] at hk
    split at hk
    · cases hk
    · exact hk
  rcases hown.2 with ⟨hh, rfl, hf⟩ | ⟨g, c, cur, et, fps, hh, hg, h1, h2, h3, h4, hf, hel⟩
  · exact .inl ⟨by simpa using hh, rfl, hf, by simp, rfl, by simp, by simp, hsub, by simp, by simp, by simp⟩
  · right
    rw [hf, List.nodup_cons] at hnd
    have hle : xs.length * e.sz ≤ cur.size := by rw [h3]; exact Nat.mul_le_mul_right _ h1
    have hseg : ∀ j, j < xs.length → ((cur.toList.take (xs.length * e.sz)).drop (j * e.sz)).take e.sz = seg cur (j * e.sz) e.sz := fun j hj => by
      have : (j + 1) * e.sz ≤ xs.length * e.sz := Nat.mul_le_mul_right _ hj
      rw [Nat.add_mul, Nat.one_mul] at this
      simp only [seg, List.drop_take, List.take_take]
      congr 1
      omega
    refine ⟨g, c, cur, et, fps, by simpa using hh, hg, h1, h2, h3, hf, hnd.1, ⟨by simp; omega, h4, fun j hj => ?_, hnd.2, hsub, by simp, fun b hb => ⟨r, _, hr, by rw [hget_set_none, if_pos rfl], by simp [tfp, hf, hb]⟩, ?_⟩⟩
    · rw [hseg j hj]; exact hel j hj
    · refine segs_one (n := xs.length) (sz := e.sz) (by simp; omega) fun j hj => ?_
      rw [hseg j hj]
      exact (hel j hj).one

/-! ## append, on cells -/
theorem size_zeroCs (z : Array Value) (n : Nat) : (Builtin.zeroCells z n).size = n * z.size := by simp [Builtin.zeroCells]

structure Src (P : Program) (w : World) (size m : Nat) (x : Value) (news : List Value) : Prop where
  len : ∀ w', (Builtin.lenOf x).run P w' = .ok m w'
  now : (Builtin.firstCells size m x).run P w = .ok news.toArray w
  drew : (Builtin.firstCells size m x).run P w.drew = .ok news.toArray w.drew

def noInt (P : Program) (t : TypeId) : Prop := P.underlying t = some .string ∨ ∃ e, P.underlying t = some (.slice e)

theorem run_append_in {t t2 ty eid : TypeId} {i : TypeInfo} (ht : P.underlying t = some (.slice eid)) (h2 : noInt P t2) (hi : P.info? eid = some i) {size : Nat} (hs : i.size = size) {g sLen sCap m : Nat} {cur : Array Value} {et : TypeId}
    (hg : w.heap[g]? = some (.cells cur et (0, 0))) {x : Value} {news : List Value} (hx : Src P w size m x news) (h1 : ∀ u ∈ news, u.oneCell' = true) (hroom : sLen + m ≤ sCap) (hfit : sLen * size + news.length ≤ cur.size) :
    (Builtin.append_ #[t, t2] ty #[.slice (some ⟨g, 0, none⟩) sLen sCap, x]).run P w = .ok (.slice (some ⟨g, 0, none⟩) (sLen + m) sCap) (w.setRow g (lay cur (sLen * size) news)) := by
  subst hs
  have hst := run_storeCells_at P g (sLen * i.size) et news 0 cur w hg (by simpa using hfit) h1
  simp only [Nat.add_zero] at hst
  rcases h2 with hd | ⟨d, hd⟩ <;> simp [Builtin.append_, run_underlying ht, run_underlying hd, sizeOf, typeInfo, hi, hx.len, hx.now, hroom, add_lit', hst, lay]

theorem run_append_nil0 {t t2 ty eid : TypeId} {i : TypeInfo} (ht : P.underlying t = some (.slice eid)) (h2 : noInt P t2) (hi : P.info? eid = some i) {x : Value} {news : List Value} (hx : Src P w i.size 0 x news) :
    (Builtin.append_ #[t, t2] ty #[.slice none 0 0, x]).run P w = .ok (.slice none 0 0) w := by
  rcases h2 with hd | ⟨d, hd⟩ <;> simp [Builtin.append_, run_underlying ht, run_underlying hd, sizeOf, typeInfo, hi, hx.len, hx.now]

theorem run_append_up {t t2 ty eid : TypeId} {i : TypeInfo} {z : Value} (ht : P.underlying t = some (.slice eid)) (h2 : noInt P t2) (hi : P.info? eid = some i) (hz : i.zero = some z) {size : Nat} (hs : i.size = size) {B : Option Addr} {sLen sCap m : Nat}
    {olds : List Value} (hold : (Builtin.firstCells size sLen (.slice B sLen sCap)).run P w.drew = .ok olds.toArray w.drew)
    {x : Value} {news : List Value} (hx : Src P w size m x news) (hg : sCap < sLen + m) (h63 : sLen + m ≤ 9223372036854775807) (hbytes : (sLen + m) * i.bytes ≤ 140737488355328) :
    (Builtin.append_ #[t, t2] ty #[.slice B sLen sCap, x]).run P w = .ok (.slice (some ⟨w.heap.size, 0, none⟩) (sLen + m) (grownCap w (sLen + m) sCap eid))
        (w.drew.alloc (.cells (olds ++ news ++ (Builtin.zeroCells z.cells (grownCap w (sLen + m) sCap eid - (sLen + m))).toList).toArray eid)) := by
  subst hs
  have hfit := growslice_fits hg hbytes
  have hnn : ¬ (sLen + m ≤ sCap) := by omega
  have h63' : ¬ (9223372036854775807 < ((sLen : Int) + (m : Int))) := by omega
  have h48' : ¬ (281474976710656 < Builtin.nextslicecap (sLen + m) sCap * i.bytes) := by omega
  have hl := hx.len
  have hdr := hx.drew
  rcases h2 with hd | ⟨d, hd⟩ <;> simp [Builtin.append_, run_underlying ht, run_underlying hd, sizeOf, typeInfo, zeroValue, hi, hz, hl, hdr, hold, hnn, h63', h48', Question.forced, newRow, grownCap] <;>
    (congr 2; apply Array.ext'; simp)

end
end Go.Vee

set_option linter.unusedSimpArgs false
set_option linter.unusedVariables false
namespace Go.Vee
open Go

section
variable {P : Program} {w0 w : World} {F0 : Bnd} {s : St} {a : Act} {I : Nat → Prop} {ρ : Nat → RC} {H : Heap} {o : Oper} {K : St → Prop} {Q : Exit → Act → World → Prop}

/-- Cells in a block, to be read by 'append'. -/
theorem Src.block {size n c : Nat} {b off : Nat} {arr : Array Value} {et : TypeId} {fr : Nat × Nat} (hb : w.heap[b]? = some (.cells arr et fr)) (hin : off + n * size ≤ arr.size) :
    Src P w size n (.slice (some ⟨b, off, none⟩) n c) (seg arr off (n * size)) := by
  have hcell : ∀ w' : World, w'.heap[b]? = some (.cells arr et fr) → ∀ j v, (seg arr off (n * size))[j]? = some v → w'.cell? ((⟨b, off, none⟩ : Addr).add j) = some v := fun w' hb' j v hj => by
    have hlt : j < n * size := by have := (List.getElem?_eq_some_iff.1 hj).1; rw [seg_length hin] at this; exact this
    rw [seg_get hlt] at hj
    rw [add_lit']
    simp [World.cell?, hb', hj]
  exact ⟨fun _ => by simp [Builtin.lenOf], run_firstCells_some w size n _ n c _ (seg_length hin) (hcell w hb), run_firstCells_some w.drew size n _ n c _ (seg_length hin) (hcell w.drew hb)⟩

theorem Src.zero {size c : Nat} {A : Option Addr} : Src P w size 0 (.slice A 0 c) [] := by
  cases A with
  | none => exact ⟨fun _ => by simp [Builtin.lenOf], by simp [Builtin.firstCells], by simp [Builtin.firstCells]⟩
  | some a => exact ⟨fun _ => by simp [Builtin.lenOf], by simp [Builtin.firstCells, loadCells, loadCellsFrom], by simp [Builtin.firstCells, loadCells, loadCellsFrom]⟩

theorem Src.str {size : Nat} (b : ByteArray) : Src P w size b.size (.string b) (Lib.strCells b) := ⟨fun _ => by simp [Builtin.lenOf], Lib.run_firstCells_string w size b, Lib.run_firstCells_string w.drew size b⟩

/-- A part of packed elements. -/
theorem PackedL.part {H' : Heap} {e : Ty} {m : Md} {xs : List e.den} {cells : List Value} {fps : List (List Nat)} (h : PackedL w I ρ H H' e m xs cells fps) (hno : ∀ j, fps.getD j [] = []) (lo n : Nat) (hl : lo + n ≤ xs.length) :
    PackedL w I ρ H H e m ((xs.drop lo).take n) ((cells.drop (lo * e.sz)).take (n * e.sz)) (List.replicate n []) := by
  have hlen : ((xs.drop lo).take n).length = n := by simp; omega
  have hcl : lo * e.sz + n * e.sz ≤ cells.length := by rw [h.len, ← Nat.add_mul]; exact Nat.mul_le_mul_right _ hl
  have hfl : (List.replicate n ([] : List Nat)).flatten = [] := by simp
  refine ⟨by rw [hlen]; simp; omega, by rw [hlen]; simp, fun j hj => ?_, by rw [hfl]; simp, fun _ _ h => h, rfl, by rw [hfl]; simp, fun u hu => h.one u (List.mem_of_mem_drop (List.mem_of_mem_take hu))⟩
  rw [hlen] at hj
  have e2 : (List.replicate n ([] : List Nat)).getD j [] = [] := by simp [List.getD_eq_getElem?_getD, List.getElem?_replicate]; split <;> rfl
  have := h.own (lo + j) (by omega)
  rw [hno] at this
  rw [e2]
  have e3 : (((cells.drop (lo * e.sz)).take (n * e.sz)).drop (j * e.sz)).take e.sz = (cells.drop ((lo + j) * e.sz)).take e.sz := by
    have : (j + 1) * e.sz ≤ n * e.sz := Nat.mul_le_mul_right _ hj
    rw [Nat.add_mul, Nat.one_mul] at this
    rw [List.drop_take, List.take_take, List.drop_drop, Nat.add_mul]
    congr 1
    omega
  rw [e3]
  simpa using this

/-- A slice read inside a row: its block. -/
theorem Inv.refBlock (h : Inv w0 F0 s a w I ρ) {e : Ty} {r ver : Nat} {p : List Stp} {lo n : Nat} {u : Value} (hv : VR w I ρ s.H (.ref e r ver p lo n) u) {m : Md} {y : List e.den} (hr : readRef Alg.std s.H e r ver p = some (m, y)) :
    lo + n ≤ y.length ∧ ∃ A c, u = .slice A n c ∧ n ≤ c ∧ (n = 0 ∨ ∃ (g : Nat) (arr : Array Value) (et : TypeId) (fps : List (List Nat)), A = some ⟨g, lo * e.sz, none⟩ ∧ w.heap[g]? = some (.cells arr et (0, 0)) ∧ y.length * e.sz ≤ arr.size ∧ fps.length = y.length ∧
      ∀ j (hj : j < y.length), Own w I e m (seg arr (j * e.sz) e.sz) (y[j]'hj) (fps.getD j [])) := by
  obtain ⟨A, c, B, c0, l, fp', e', m', xs, v, hu, hnc, hg, hle, hver, hw, q1, q2, q3, hown, hsub, hget⟩ := h.ref hv hr
  refine ⟨q1, A, c, hu, hnc, ?_⟩
  by_cases hn : n = 0
  · exact .inl hn
  · right
    have hA := q2 (by omega)
    rcases hown.2 with ⟨_, hy, _⟩ | ⟨g, c2, arr, et, fps, he, hb, h1, h2, h3, h4, _, hel⟩
    · rw [hy] at q1; simp at q1; omega
    · simp only [List.cons.injEq, Value.slice.injEq, and_true] at he
      obtain ⟨rfl, -, rfl⟩ := he
      refine ⟨g, arr, et, fps, by simp [hA, add_lit'], hb, by rw [h3]; exact Nat.mul_le_mul_right _ h1, h4, hel⟩

theorem srcM_spec (h : Inv w0 F0 s a w I ρ) {e : Ty} {v : AV} {u : Value} (hv : VR w I ρ s.H v u) {m : Md} {ys : List e.den} {H' : Heap} {ps : List Prop} (hs : srcM Alg.std e s.H v = some (m, ys, H', ps)) (hq : ∀ p ∈ ps, p) :
    ∃ cells fps, PackedL w I ρ s.H H' e m ys cells fps ∧ Src P w e.sz ys.length u cells := by
  unfold srcM at hs
  split at hs
  · cases hs
    cases hv
    exact ⟨[], [], PackedL.nil, Src.zero⟩
  · rename_i x
    split at hs
    · rename_i y hy
      cases hs
      obtain ⟨e1, e2⟩ := castD_some hy
      cases e1
      subst e2
      obtain ⟨b, rfl, rfl, hb⟩ := hv.str_inv
      refine ⟨Lib.strCells b, List.replicate b.size [], ?_, ?_⟩
      · have hl : (b.data.toList.map fun b => (b.toNat : Int)).length = b.size := by rw [List.length_map]; exact Array.length_toList
        refine ⟨by rw [Lib.strCells_length]; simp only [Ty.sz, Nat.mul_one]; exact hl.symm, by simp only [List.length_replicate]; exact hl.symm, fun j hj => ?_, by simp, fun _ _ h => h, rfl, by simp, Lib.strCells_oneCell b⟩
        have e2 : (List.replicate b.size ([] : List Nat)).getD j [] = [] := by simp [List.getD_eq_getElem?_getD, List.getElem?_replicate]; split <;> rfl
        rw [e2]
        have hj' : j < b.data.toList.length := by have hh : j < (b.data.toList.map fun b => (b.toNat : Int)).length := hj; simpa using hh
        have e3 : ((Lib.strCells b).drop (j * Ty.sz (.int .u8))).take (Ty.sz (.int .u8)) = [.int .u8 (b.data.toList[j].toNat : Int)] := by
          simp only [Ty.sz, Nat.mul_one, Lib.strCells, ← List.map_drop, ← List.map_take]
          have : (b.data.toList.drop j).take 1 = [b.data.toList[j]] := by
            rw [List.take_one, List.head?_drop]
            simp [hj']
          rw [this]
          rfl
        rw [e3]
        have e4 : ∀ (hj : j < (b.data.toList.map fun b => (b.toNat : Int)).length), (b.data.toList.map fun b => (b.toNat : Int))[j] = (b.data.toList[j].toNat : Int) := fun hj => by simp
        refine ⟨?_, ?_, rfl⟩
        · exact congrArg (fun n => [Value.int .u8 n]) (e4 _).symm
        · have h8 := UInt8.toNat_lt (b.data.toList[j]'hj')
          have gen : ∀ n : Int, n = ((b.data.toList[j]'hj').toNat : Int) → IntKind.u8.min ≤ n ∧ n ≤ IntKind.u8.max := fun n hn => by
            simp only [IntKind.min, IntKind.max, IntKind.signed, IntKind.bits]
            simp
            omega
          exact gen _ (e4 _)
      · have hl : (b.data.toList.map fun b => (b.toNat : Int)).length = b.size := by rw [List.length_map]; exact Array.length_toList
        have := Src.str (P := P) (w := w) (size := Ty.sz (.int .u8)) b
        rw [← hl] at this
        exact this
    · cases hs
  · rename_i t x _
    split at hs
    · rename_i y hy
      cases hs
      obtain ⟨e1, e2⟩ := castD_some hy
      cases e1
      subst e2
      obtain ⟨A, c, rfl, hl, hlc, hcase⟩ := hv.sl_inv
      rcases hcase with rfl | ⟨b, off, arr, et, fr, rfl, hb, hI, hel⟩
      · exact ⟨[], [], PackedL.nil, Src.zero⟩
      · by_cases h0 : List.length x = 0
        · have : x = [] := List.eq_nil_of_length_eq_zero h0
          subst this
          exact ⟨[], [], PackedL.nil, Src.zero⟩
        · have hin : off + List.length x * e.sz ≤ arr.size := by
            have := (hel (List.length x - 1) (by omega)).1
            rwa [Nat.sub_add_cancel (by omega)] at this
          refine ⟨seg arr off (List.length x * e.sz), List.replicate (List.length x) [], ⟨seg_length hin, by simp, fun j hj => ?_, by simp, fun _ _ h => h, rfl, by simp, ?_⟩, Src.block hb hin⟩
          · have e2 : (List.replicate (List.length x) ([] : List Nat)).getD j [] = [] := by simp [List.getD_eq_getElem?_getD, List.getElem?_replicate]; split <;> rfl
            rw [e2, seg_seg (by have : (j + 1) * e.sz ≤ List.length x * e.sz := Nat.mul_le_mul_right _ hj
                                rw [Nat.add_mul, Nat.one_mul] at this; exact this)]
            exact (hel j hj).2
          · refine segs_one (n := List.length x) (sz := e.sz) (seg_length hin) fun j hj => ?_
            rw [seg_seg (by have : (j + 1) * e.sz ≤ List.length x * e.sz := Nat.mul_le_mul_right _ hj
                            rw [Nat.add_mul, Nat.one_mul] at this; exact this)]
            exact (hel j hj).2.one
    · cases hs
  · rename_i e' r ver p lo n
    split at hs
    · rename_i m0 y hrd
      split at hs
      · rename_i z hz
        obtain ⟨e1, e2⟩ := castD_some hz
        cases e1
        change (y.drop lo).take n = z at e2
        subst e2
        obtain ⟨q1, A, c, rfl, hnc, hblk⟩ := h.refBlock hv hrd
        have hzl : ((y.drop lo).take n).length = n := by simp; omega
        -- what is shared or flat
        have flatten : ∀ m1 : Md, (∀ (cs : List Value) (x : e.den) (fp : List Nat), Own w I e m0 cs x fp → fp = [] ∧ Own w I e m1 cs x []) →
            ∃ cells fps, PackedL w I ρ s.H s.H e m1 ((y.drop lo).take n) cells fps ∧ Src P w e.sz ((y.drop lo).take n).length (.slice A n c) cells := fun m1 hm => by
          rw [hzl]
          rcases hblk with rfl | ⟨g, arr, et, fps, rfl, hb, hin, hfl, hel⟩
          · refine ⟨[], [], ?_, Src.zero⟩
            rw [List.take_zero]
            exact PackedL.nil
          · have hnin : lo * e.sz + n * e.sz ≤ arr.size := by
              have := Nat.mul_le_mul_right e.sz q1
              rw [Nat.add_mul] at this
              omega
            have hsg : ∀ j, j < n → ((seg arr (lo * e.sz) (n * e.sz)).drop (j * e.sz)).take e.sz = seg arr ((lo + j) * e.sz) e.sz := fun j hj => by
              rw [seg_seg (by have : (j + 1) * e.sz ≤ n * e.sz := Nat.mul_le_mul_right _ hj
                              rw [Nat.add_mul, Nat.one_mul] at this; exact this), Nat.add_mul]
            refine ⟨seg arr (lo * e.sz) (n * e.sz), List.replicate n [], ⟨by rw [hzl]; exact seg_length hnin, by rw [hzl]; simp, fun j hj => ?_, by simp, fun _ _ h => h, rfl, by simp, ?_⟩, Src.block hb hnin⟩
            · rw [hzl] at hj
              have e2 : (List.replicate n ([] : List Nat)).getD j [] = [] := by simp [List.getD_eq_getElem?_getD, List.getElem?_replicate]; split <;> rfl
              rw [e2, hsg j hj]
              have := (hm _ _ _ (hel (lo + j) (by omega))).2
              simpa using this
            · refine segs_one (n := n) (sz := e.sz) (seg_length hnin) fun j hj => ?_
              rw [hsg j hj]
              exact (hel (lo + j) (by omega)).one
        split at hs
        · rename_i hown
          split at hs
          · cases hs
            rename_i hp hlo
            have hn : n = List.length y := hq (Alg.std.EqN n (Alg.std.lenL y)) (List.mem_singleton.2 rfl)
            subst hn
            obtain ⟨v0, e0, m1, xs, g1, g2, g3⟩ := readRef_spec hrd
            simp only [getAt, Option.some.injEq] at g3
            cases g3
            have hxs : (y.drop 0).take (List.length y) = y := by simp
            rw [hxs]
            cases hv
            rename_i hrl hn' _ hc
            obtain ⟨_, hw⟩ := hc _ _ _ _ g1
            obtain ⟨B, c0, len, l', hw, k1, k2, k3⟩ := hw (.inl rfl)
            have hhdr : (ρ r).hdr = .slice B len c0 := by simp [walk] at hw; exact hw.1
            rcases row_parts h.rootsOf g1 with ⟨hh, rfl, hf, pk⟩ | ⟨g, c2, cur, et, fps, hh, hg, h1, h2, h3, h4, h5, pk⟩
            · rw [hhdr] at hh
              simp only [Value.slice.injEq] at hh
              obtain ⟨rfl, rfl, rfl⟩ := hh
              exact ⟨[], [], pk, Src.zero⟩
            · rw [hhdr] at hh
              simp only [Value.slice.injEq] at hh
              obtain ⟨rfl, rfl, rfl⟩ := hh
              obtain ⟨rfl, rfl⟩ := k3 ⟨rfl, rfl⟩
              refine ⟨_, fps, pk, ?_⟩
              have : List.take (List.length y * e.sz) cur.toList = seg cur 0 (List.length y * e.sz) := by simp [seg]
              rw [this]
              exact Src.block hg (by rw [h3, Nat.zero_add]; exact Nat.mul_le_mul_right _ h1)
          · cases hs
        · split at hs
          · split at hs
            · rename_i hm
              cases hs
              subst hm
              exact flatten .sh fun cs x fp ho => by have := Own.sh_fp ho; subst this; exact ⟨rfl, ho⟩
            · cases hs
          · rename_i hs1
            cases hs
            exact flatten .sh fun cs x fp ho => by
              obtain ⟨k1, k2⟩ := ho.flat (by simpa using hs1)
              exact ⟨k1, k2 _ _ _⟩
      · cases hs
    · cases hs
  · cases hs

end
end Go.Vee

set_option linter.unusedSimpArgs false
set_option linter.unusedVariables false
namespace Go.Vee
open Go

section
variable {P : Program} {w0 w : World} {F0 : Bnd} {s : St} {a : Act} {I : Nat → Prop} {ρ : Nat → RC} {H : Heap} {o : Oper} {K : St → Prop} {Q : Exit → Act → World → Prop}

theorem seg_of_take {arr : Array Value} {cells : List Value} {i n : Nat} (ht : arr.toList.take cells.length = cells) (h : i + n ≤ cells.length) : seg arr i n = (cells.drop i).take n := by
  have : (cells.drop i).take n = ((arr.toList.take cells.length).drop i).take n := by rw [ht]
  rw [this, List.drop_take, List.take_take]
  simp only [seg]
  congr 1
  omega

/-- A block that was a root's, written and made a row. -/
theorem ok_rowIn {H' : Heap} {e : Ty} {m : Md} {xs : List e.den} {cells : List Value} {fps : List (List Nat)} {et : TypeId} {c g r : Nat} {cur arr1 : Array Value} {o' : Root} (h : Inv w0 F0 s a w I ρ)
    (hp : PackedL w I ρ s.H H' e m xs cells fps) (hg : w.heap[g]? = some (.cells cur et (0, 0))) (hr : hget s.H r = some o') (hr' : hget H' r = none) (hgr : g ∈ tfp ρ r o') (hgf : g ∉ fps.flatten)
    (hc : xs.length ≤ c) (hcm : c ≤ maxLen) (hsz : arr1.size = c * e.sz) (ht : arr1.toList.take cells.length = cells)
    (hrun : (execOp a.eval o).run P w = .ok (.value (.slice (some ⟨g, 0, none⟩) xs.length c)) (w.setRow g arr1))
    (hs : sat (doneH s (H' ++ [some (.row 0 e m xs)]) o.dst (.ref e H'.length 0 [] 0 xs.length)) (fun _ s' => K s')) : o.wp P a w (Post w0 F0 K) Q := by
  have hnb : (w.setRow g arr1).heap[g]? = some (.cells arr1 et (0, 0)) := setRow_heap w g cur _ et _ hg
  have hsep := h.sep r _ hr g hgr
  have hown : Own (w.setRow g arr1) I (.sl e) (.ow m) [.slice (some ⟨g, 0, none⟩) xs.length c] xs (g :: fps.flatten) := by
    refine ⟨by simp only [maxLen] at hcm; omega, .inr ⟨g, c, arr1, et, fps, rfl, hnb, hc, hcm, hsz, hp.fl, rfl, fun j hj => ?_⟩⟩
    have hle : j * e.sz + e.sz ≤ cells.length := by
      rw [hp.len]
      have : (j + 1) * e.sz ≤ xs.length * e.sz := Nat.mul_le_mul_right _ hj
      rwa [Nat.add_mul, Nat.one_mul] at this
    rw [seg_of_take ht hle]
    exact Own.frame (fun b hb => setRow_other w _ _ _ (fun hh => hsep.1 (by rw [← hh]; exact hb))) (fun _ h => h) (hp.own j hj) fun b hb => setRow_other w _ _ _ (fun hh => hgf (by rw [← hh]; exact mem_flatten_getD.2 ⟨j, hb⟩))
  obtain ⟨ρ', h1, h2⟩ := h.newRow hp.sub hp.hl e m xs _ _ (Keeps.setRow w g arr1 _ (by simp)) hown (by rw [List.nodup_cons]; exact ⟨hgf, hp.nd⟩) (fun b hb => by
      rcases List.mem_cons.1 hb with rfl | hb
      · exact .inr ⟨r, o', hr, hr', hgr⟩
      · exact .inr (hp.src b hb))
  exact wp_val hrun ⟨_, I, ρ', h1.put h2 o.dst, hs⟩

/-- Nothing made: nil stays. -/
theorem ok_rowNil {H' : Heap} {e : Ty} {m : Md} (h : Inv w0 F0 s a w I ρ) (hsub : ∀ r o, hget H' r = some o → hget s.H r = some o) (hlen : H'.length = s.H.length)
    (hrun : (execOp a.eval o).run P w = .ok (.value (.slice none 0 0)) w)
    (hs : sat (doneH s (H' ++ [some (.row 0 e m [])]) o.dst (.ref e H'.length 0 [] 0 0)) (fun _ s' => K s')) : o.wp P a w (Post w0 F0 K) Q := by
  obtain ⟨ρ', h1, h2⟩ := h.newRow hsub hlen e m [] (.slice none 0 0) [] (Keeps.refl _ _) ⟨Nat.zero_le _, .inl ⟨rfl, rfl, rfl⟩⟩ (by simp) (by simp)
  exact wp_val hrun ⟨_, I, ρ', h1.put h2 o.dst, hs⟩

theorem grown_ok {w : World} {need old : Nat} {eid : TypeId} (h : need ≤ maxLen) : need ≤ grownCap w need old eid ∧ grownCap w need old eid ≤ maxLen := ⟨grownCap_ge w need old eid, grownCap_le_maxLen w need old eid h⟩

theorem exec_append {x y : Operand} {t t2 : TypeId} (ho : o.op = .call { callee := .builtin .append, args := #[x, y], argTypes := #[t, t2] }) {v : Value} {w' : World}
    (hr : (Builtin.append_ #[t, t2] o.type #[a.eval x, a.eval y]).run P w = .ok v w') : (execOp a.eval o).run P w = .ok (.value v) w' := by
  obtain ⟨bc, hbc⟩ := exec_builtin (P := P) (a := a) ho
  rw [hbc]
  simp [builtin, hr]

/-- What append does with what is appended. -/
structure App (P : Program) (w : World) (t t2 ty eid : TypeId) (i : TypeInfo) (z : Value) (size m : Nat) (x : Value) (news : List Value) : Prop where
  inn : ∀ {g sLen sCap : Nat} {cur : Array Value} {et : TypeId}, w.heap[g]? = some (.cells cur et (0, 0)) → (∀ u ∈ news, u.oneCell' = true) → sLen + m ≤ sCap → sLen * size + news.length ≤ cur.size →
    (Builtin.append_ #[t, t2] ty #[.slice (some ⟨g, 0, none⟩) sLen sCap, x]).run P w = .ok (.slice (some ⟨g, 0, none⟩) (sLen + m) sCap) (w.setRow g (lay cur (sLen * size) news))
  nil0 : m = 0 → (Builtin.append_ #[t, t2] ty #[.slice none 0 0, x]).run P w = .ok (.slice none 0 0) w
  up : ∀ {B : Option Addr} {sLen sCap : Nat} {olds : List Value}, (Builtin.firstCells size sLen (.slice B sLen sCap)).run P w.drew = .ok olds.toArray w.drew → sCap < sLen + m → sLen + m ≤ 9223372036854775807 → (sLen + m) * i.bytes ≤ 140737488355328 →
    (Builtin.append_ #[t, t2] ty #[.slice B sLen sCap, x]).run P w = .ok (.slice (some ⟨w.heap.size, 0, none⟩) (sLen + m) (grownCap w (sLen + m) sCap eid))
        (w.drew.alloc (.cells (olds ++ news ++ (Builtin.zeroCells z.cells (grownCap w (sLen + m) sCap eid - (sLen + m))).toList).toArray eid))

theorem App.of_src {t t2 ty eid : TypeId} {i : TypeInfo} {z : Value} {size m : Nat} {x : Value} {news : List Value} (ht : P.underlying t = some (.slice eid)) (h2 : noInt P t2) (hi : P.info? eid = some i) (hz : i.zero = some z) (hs : i.size = size) (hx : Src P w size m x news) :
    App P w t t2 ty eid i z size m x news :=
  ⟨fun hg h1 hroom hfit => run_append_in ht h2 hi hs hg hx h1 hroom hfit, fun h0 => by subst h0; subst hs; exact run_append_nil0 ht h2 hi hx, fun hold hg h63 hb => run_append_up ht h2 hi hz hs hold hx hg h63 hb⟩

theorem App.zeros {t t2 ty eid : TypeId} {i : TypeInfo} {z : Value} {size : Nat} {n : Int} (ht : P.underlying t = some (.slice eid)) (h2 : P.underlying t2 = some (.int .i64)) (hi : P.info? eid = some i) (hz : i.zero = some z) (hs : i.size = size) (hzs : z.cells.size = size) (hpos : 0 < size)
    (hn : 0 ≤ n ∧ n ≤ 9223372036854775807) (hb : n * i.bytes ≤ 281474976710656) : App P w t t2 ty eid i z size n.toNat (.int .i64 n) (Builtin.zeroCells z.cells n.toNat).toList := by
  subst hs
  have hw : IntKind.wrap .i64 n = n := wrap_in (i64_range (by omega))
  have hn0 : ¬ n < 0 := by omega
  have hb' : ¬ (281474976710656 < n * (i.bytes : Int)) := by omega
  have hai : ∀ w' : World, (asInt (.int .i64 n)).run P w' = .ok n w' := fun w' => by simp [asInt, asIntOf]
  have hz0 : n.toNat = 0 → Builtin.zeroCells z.cells n.toNat = #[] := fun h => by simp [Builtin.zeroCells, h]
  have hzv : ∀ w' : World, (zeroValue eid).run P w' = .ok z w' := fun w' => by simp [zeroValue, typeInfo, hi, hz]
  refine ⟨fun {g sLen sCap cur et} hg h1 hroom hfit => ?_, fun h0 => ?_, fun {B sLen sCap olds} hold hg h63 hbytes => ?_⟩
  · have hst := run_storeCells_at P g (sLen * i.size) et (Builtin.zeroCells z.cells n.toNat).toList 0 cur w hg (by simpa using hfit) h1
    simp only [Nat.add_zero] at hst
    by_cases h0 : n.toNat = 0
    · have hc0 := hz0 h0
      rw [hc0] at hst ⊢
      rw [h0] at hroom ⊢
      have hroom' : sLen ≤ sCap := hroom
      simp at hst
      simp [Builtin.append_, run_underlying ht, run_underlying h2, sizeOf, typeInfo, hi, hai, hw, hn0, hb', h0, hroom', add_lit', lay, hst]
    · have hm : ¬ (n.toNat * i.size = 0) := by
        intro hh
        rcases Nat.mul_eq_zero.1 hh with h | h <;> omega
      have hm1 : ¬ n.toNat = 0 := h0
      have hm2 : ¬ i.size = 0 := by omega
      simp [Builtin.append_, run_underlying ht, run_underlying h2, sizeOf, typeInfo, hi, hai, hw, hn0, hb', hroom, add_lit', hm, hm1, hm2, hzv, hst, lay]
  · have hn' : ¬ 0 < n := by omega
    simp [Builtin.append_, run_underlying ht, run_underlying h2, sizeOf, typeInfo, hi, hai, hw, hn0, hb', h0, hn']
  · have hfit := growslice_fits hg hbytes
    have hnn : ¬ (sLen + n.toNat ≤ sCap) := by omega
    have h63' : ¬ (9223372036854775807 < ((sLen : Int) + (n.toNat : Int))) := by omega
    have h48' : ¬ (281474976710656 < Builtin.nextslicecap (sLen + n.toNat) sCap * i.bytes) := by omega
    have h63'' : ¬ (9223372036854775807 < ((sLen : Int) + max n 0)) := by omega
    by_cases h0 : n.toNat = 0
    · have hn0' : n = 0 := by omega
      subst hn0'
      have hnn' : ¬ sLen ≤ sCap := by simpa using hnn
      have h48z : ¬ (281474976710656 < Builtin.nextslicecap sLen sCap * i.bytes) := by simpa using h48'
      have h63z : ¬ (9223372036854775807 < (sLen : Int)) := by omega
      simp [Builtin.append_, run_underlying ht, run_underlying h2, sizeOf, typeInfo, hzv, hi, hai, hw, hold, hnn', h63z, h48z, Question.forced, newRow, grownCap, Builtin.zeroCells]
      congr 2; apply Array.ext'; simp
    · have hm : ¬ (n.toNat * i.size = 0) := by
        intro hh
        rcases Nat.mul_eq_zero.1 hh with h | h <;> omega
      have hm1 : ¬ n.toNat = 0 := h0
      have hm2 : ¬ i.size = 0 := by omega
      simp [Builtin.append_, run_underlying ht, run_underlying h2, sizeOf, typeInfo, hzv, hi, hz, hai, hw, hn0, hb', hold, hnn, h63', h63'', h48', hm, hm1, hm2, Question.forced, newRow, grownCap]
      congr 2; apply Array.ext'; simp

theorem ok_append {x y : Operand} {t t2 : TypeId} (τ : Env) (G : Gam) (hE : EnvOk P τ) (h : Inv w0 F0 s a w I ρ) (ho : o.op = .call { callee := .builtin .append, args := #[x, y], argTypes := #[t, t2] }) (hs : sat (stepOp Alg.std τ G o s) (fun _ s' => K s')) :
    o.wp P a w (Post w0 F0 K) Q := by
  have key : ∀ e (src0 : Unit → Option (Md × List e.den × Heap × List Prop)), τ.ty t = some (.sl e) → (∀ m ys H' pp, src0 () = some (m, ys, H', pp) → (∀ p ∈ pp, p) → ∀ eid i z, P.underlying t = some (.slice eid) → P.info? eid = some i → i.zero = some z → i.size = e.sz → z.cells = (zeroCs e).toArray → i.bytes ≤ e.bnd → 0 < e.sz →
      ∃ cells fps, PackedL w I ρ s.H H' e m ys cells fps ∧ App P w t t2 o.type eid i z e.sz ys.length (a.eval y) cells) → sat (appOp Alg.std s o.dst e (src0 ()) (Vee.ev Alg.std s x)) (fun _ s' => K s') → o.wp P a w (Post w0 F0 K) Q := by
    intro e src0 hT h2 hs
    obtain ⟨eid, hun, hF, hsz⟩ := TyF.sl (hE.ty t _ hT)
    obtain ⟨i, hi, hi1, hi2, hi3⟩ := (TyF.base hF).info
    have hz := mkV_cells (zeroCs_length e) (VRs.zero (w := w) (I := I) (ρ := ρ) (H := s.H) e).one
    have hzl : (mkV e (zeroCs e)).cells.size = e.sz := by rw [hz]; simpa using zeroCs_length e
    have hb8 := bnd_pos hsz
    have hx := h.ev x
    have hy := h.ev y
    unfold appOp at hs
    split at hs
    · rename_i hxe
      rw [hxe] at hx
      split at hs
      · rename_i m ys H' pp hsrc
        rw [sat_needs] at hs
        obtain ⟨hq, ⟨hroom, hs⟩⟩ := hs
        have hroom' : List.length ys * e.bnd ≤ 140737488355328 := hroom
        obtain ⟨cells, fps, pk, src⟩ := h2 _ _ _ _ hsrc hq eid i (mkV e (zeroCs e)) hun hi hi2 hi1 hz hi3 hsz
        have hxu : a.eval x = .slice none 0 0 := by cases hu : a.eval x <;> rw [hu] at hx <;> cases hx; rfl
        by_cases h0 : ys.length = 0
        · have : ys = [] := List.eq_nil_of_length_eq_zero h0
          subst this
          skip
          refine ok_rowNil (e := e) (m := m) h pk.sub pk.hl (exec_append ho (by rw [hxu]; exact src.nil0 rfl)) ?_
          rw [pk.hl]
          rw [pk.hl] at hs
          exact hs
        · have hlb : List.length ys * 8 ≤ List.length ys * e.bnd := Nat.mul_le_mul_left _ hb8
          have hbb : List.length ys * i.bytes ≤ List.length ys * e.bnd := Nat.mul_le_mul_left _ hi3
          have hml : List.length ys ≤ maxLen := by simp only [maxLen]; omega
          have hr := src.up (B := none) (sLen := 0) (sCap := 0) (olds := []) (by simp [Builtin.firstCells]) (by omega) (by omega) (by rw [Nat.zero_add]; omega)
          rw [Nat.zero_add] at hr
          simp only [List.nil_append] at hr
          obtain ⟨g1, g2⟩ := grown_ok (w := w) (old := 0) (eid := eid) hml
          refine ok_newRow (w1 := w.drew) (et := eid) h pk (Keeps.drew _ _) rfl g1 g2 ?_ (exec_append ho (by rw [hxu]; exact hr)) ?_
          · simp only [List.length_append, pk.len, Array.length_toList, size_zeroCs, hzl, ← Nat.add_mul]
            congr 1
            omega
          · rw [pk.hl]
            rw [pk.hl] at hs
            exact hs
      · exact hs.elim
    · rename_i e1 r ver n hxe
      rw [hxe] at hx
      split at hs
      · rename_i v0 e' m0 xs0 hr0
        split at hs
        · rename_i xs m' ys H' pp hcast hsrc
          obtain ⟨e1', e2⟩ := castD_some hcast
          cases e1'
          subst e2
          split at hs
          · rename_i mj o1 hj hr1
            rw [sat_needs] at hs
            obtain ⟨hq, ⟨hn, ⟨hroom, hs⟩⟩⟩ := hs
            have hn' : n = List.length xs0 := hn
            subst hn'
            have hroom' : (List.length xs0 + List.length ys) * e.bnd ≤ 140737488355328 := hroom
            obtain ⟨cells, fps, pk, src⟩ := h2 _ _ _ _ hsrc hq eid i (mkV e (zeroCs e)) hun hi hi2 hi1 hz hi3 hsz
            have hI' := h.sub pk.sub (Nat.le_of_eq pk.hl.symm)
            have hr1' := pk.sub _ _ hr1
            rw [hr0] at hr1'
            cases hr1'
            obtain ⟨j1, j2⟩ := joinM_some hj
            have hml : List.length xs0 + List.length ys ≤ maxLen := by
              have : (List.length xs0 + List.length ys) * 8 ≤ (List.length xs0 + List.length ys) * e.bnd := Nat.mul_le_mul_left _ hb8
              simp only [maxLen]
              omega
            have hbb : (List.length xs0 + List.length ys) * i.bytes ≤ (List.length xs0 + List.length ys) * e.bnd := Nat.mul_le_mul_left _ hi3
            have hsetlen : (List.set H' r none).length = s.H.length := by rw [List.length_set, pk.hl]
            have hrn : hget (List.set H' r none) r = none := by rw [hget_set_none, if_pos rfl]
            have hlen : (xs0 ++ ys).length = List.length xs0 + List.length ys := List.length_append
            cases hu : a.eval x <;> rw [hu] at hx <;> cases hx
            rename_i A c hrl hnn hnc hc
            obtain ⟨_, hw⟩ := hc _ _ _ _ hr0
            obtain ⟨B, c0, len, l', hw, q1, q2, q3⟩ := hw (.inl rfl)
            have hhdr : (ρ r).hdr = .slice B len c0 := by simp [walk] at hw; exact hw.2.1
            rcases row_parts hI'.rootsOf hr1 with ⟨hh, rfl, hf, pk0⟩ | ⟨g, c2, cur, et, fx, hh, hg, h1, h2', h3, h4, h5, pk0⟩
            · rw [hhdr] at hh
              simp only [Value.slice.injEq] at hh
              obtain ⟨rfl, rfl, rfl⟩ := hh
              obtain ⟨rfl, rfl⟩ := q3 ⟨rfl, rfl⟩
              have pk2 := PackedL.append h.rootsOf (fun _ _ h => h) (pk0.cast j1) (pk.cast j2)
              by_cases h0 : ys.length = 0
              · have : ys = [] := List.eq_nil_of_length_eq_zero h0
                subst this
                skip
                refine ok_rowNil (e := e) (m := mj) h pk2.sub pk2.hl (exec_append ho (by rw [hu]; exact src.nil0 rfl)) ?_
                rw [hsetlen]
                have hl2 := pk.hl
                rw [hl2] at hs
                exact hs
              · have hr := src.up (B := none) (sLen := 0) (sCap := 0) (olds := []) (by simp [Builtin.firstCells]) (by omega) (by simp only [maxLen] at hml; simpa using hml) (by simp only [List.length_nil] at hbb hroom'; omega)
                simp only [List.length_nil] at hml
                obtain ⟨g1, g2⟩ := grown_ok (w := w) (old := 0) (eid := eid) hml
                refine ok_newRow (w1 := w.drew) (et := eid) (c := grownCap w (0 + List.length ys) 0 eid) (rest := (Builtin.zeroCells (mkV e (zeroCs e)).cells (grownCap w (0 + List.length ys) 0 eid - (0 + List.length ys))).toList) h pk2 (Keeps.drew _ _) rfl (by rw [hlen]; exact g1) g2 ?_ (exec_append ho (by rw [hu, hlen]; exact hr)) ?_
                · simp only [List.length_append, pk2.len, List.nil_append, pk.len, Array.length_toList, size_zeroCs, hzl, ← Nat.add_mul]
                  congr 1
                  omega
                · rw [hsetlen]
                  have hl2 := pk.hl
                  rw [hl2] at hs
                  exact hs
            · rw [hhdr] at hh
              simp only [Value.slice.injEq] at hh
              obtain ⟨rfl, rfl, rfl⟩ := hh
              obtain ⟨rfl, rfl⟩ := q3 ⟨rfl, rfl⟩
              have pk2 := PackedL.append h.rootsOf (fun _ _ h => h) (pk0.cast j1) (pk.cast j2)
              have hcx : (cur.toList.take (List.length xs0 * e.sz)).length = List.length xs0 * e.sz := by
                have : List.length xs0 * e.sz ≤ cur.size := by rw [h3]; exact Nat.mul_le_mul_right _ h1
                simp; omega
              by_cases hfit : List.length xs0 + List.length ys ≤ c
              · have hin : List.length xs0 * e.sz + cells.length ≤ cur.size := by rw [pk.len, h3, ← Nat.add_mul]; exact Nat.mul_le_mul_right _ hfit
                have hr := src.inn hg pk.one hfit hin
                refine ok_rowIn (g := g) (r := r) h pk2 hg hr0 hrn (by simp [tfp, h4]) (fun hh => ?_) (by rw [hlen]; exact hfit) h2' (by rw [lay_size hin, h3]) ?_ (exec_append ho (by rw [hu, hlen]; exact hr)) ?_
                · rw [List.flatten_append] at hh
                  rcases List.mem_append.1 hh with hh | hh
                  · exact h5 hh
                  · obtain ⟨r', o', k1, k2, k3⟩ := pk.src g hh
                    have hne : r' ≠ r := by rintro rfl; rw [k2] at hr1; cases hr1
                    exact h.disj r' o' r _ hne k1 hr0 g k3 (by simp [tfp, h4])
                · simp only [lay]
                  rw [show (cur.toList.take (List.length xs0 * e.sz) ++ cells).length = List.length xs0 * e.sz + cells.length by rw [List.length_append, hcx]]
                  have : (cur.toList.take (List.length xs0 * e.sz) ++ cells).length = List.length xs0 * e.sz + cells.length := by rw [List.length_append, hcx]
                  rw [← this]
                  exact List.take_left
                · rw [hsetlen]
                  have hl2 := pk.hl
                  rw [hl2] at hs
                  exact hs
              · have hold := (Src.block (P := P) (w := w) (size := e.sz) (n := List.length xs0) (c := c) (off := 0) hg (by rw [h3, Nat.zero_add]; exact Nat.mul_le_mul_right _ h1)).drew
                have hsg : seg cur 0 (List.length xs0 * e.sz) = cur.toList.take (List.length xs0 * e.sz) := by simp [seg]
                rw [hsg] at hold
                have hr := src.up hold (by omega) (by simp only [maxLen] at hml; omega) (by omega)
                obtain ⟨g1, g2⟩ := grown_ok (w := w) (old := c) (eid := eid) hml
                refine ok_newRow (w1 := w.drew) (et := eid) h pk2 (Keeps.drew _ _) rfl (by rw [hlen]; exact g1) g2 ?_ (exec_append ho (by rw [hu, hlen]; exact hr)) ?_
                · simp only [List.length_append, hcx, pk.len, Array.length_toList, size_zeroCs, hzl, ← Nat.add_mul]
                  congr 1
                  omega
                · rw [hsetlen]
                  have hl2 := pk.hl
                  rw [hl2] at hs
                  exact hs
          · exact hs.elim
        · exact hs.elim
      · exact hs.elim
    · exact hs.elim
  have slice : ∀ e, τ.ty t = some (.sl e) → noInt P t2 → sat (appOp Alg.std s o.dst e (srcM Alg.std e s.H (Vee.ev Alg.std s y)) (Vee.ev Alg.std s x)) (fun _ s' => K s') → o.wp P a w (Post w0 F0 K) Q := fun e hT h2 hs =>
    key e (fun _ => srcM Alg.std e s.H (Vee.ev Alg.std s y)) hT (fun m ys H' pp hsrc hq eid i z hun hi hz hs1 hs2 _ _ => by
      obtain ⟨cells, fps, pk, src⟩ := srcM_spec (P := P) h (h.ev y) hsrc hq
      exact ⟨cells, fps, pk, App.of_src hun h2 hi hz hs1 src⟩) hs
  simp only [stepOp, ho] at hs
  split at hs
  · rename_i e e2 hT hT2
    obtain ⟨eid2, hun2, _⟩ := TyF.sl (hE.ty t2 _ hT2)
    exact slice e hT (.inr ⟨_, hun2⟩) hs
  · rename_i e hT hT2
    exact slice e hT (.inl (hE.ty t2 _ hT2).2) hs
  · rename_i e hT hT2
    split at hs
    · rename_i n hn
      have hy := h.ev y
      rw [hn] at hy
      obtain ⟨hyu, hk⟩ := hy.int_inv
      refine key e (fun _ => some (e.deep, Alg.std.repL (Alg.std.toN n) e.dflt, s.H, [Alg.std.RoomI n e.bnd])) hT (fun m ys H' pp hsrc hq eid i z hun hi hz hs1 hs2 hb hp => ?_) hs
      cases hsrc
      have hroom : 0 ≤ n ∧ n * e.bnd ≤ 140737488355328 := hq _ (List.mem_singleton.2 rfl)
      have hb8 := bnd_pos hp
      have hle : n * i.bytes ≤ n * e.bnd := Int.mul_le_mul_of_nonneg_left (by omega) hroom.1
      have hkk : n ≤ 9223372036854775807 := by simpa [IntKind.max, IntKind.signed, IntKind.bits] using hk.2
      refine ⟨_, _, PackedL.zero n.toNat, ?_⟩
      rw [hyu]
      have := App.zeros (P := P) (w := w) (t := t) (t2 := t2) (ty := o.type) (n := n) hun (hE.ty t2 _ hT2).2 hi hz hs1 (by rw [hs2]; simpa using zeroCs_length e) hp ⟨hroom.1, hkk⟩ (Int.le_trans hle (Int.le_trans hroom.2 (by omega)))
      have e1 : (Alg.std.repL (Alg.std.toN n) e.dflt).length = n.toNat := List.length_replicate
      have e2 : (madeCells (zeroCs e).toArray (n.toNat * e.sz)).toList = (Builtin.zeroCells z.cells n.toNat).toList := by
        rw [hs2]; simp [madeCells, Builtin.zeroCells, zeroCs_length]
      rw [e1, e2]
      exact this
    · exact hs.elim
  · exact hs.elim

end
end Go.Vee

set_option linter.unusedSimpArgs false
set_option linter.unusedVariables false
namespace Go.Vee
open Go

theorem setAt_getAt : ∀ (p : List Stp) {t : Ty} {m : Md} {x : t.den} {t' : Ty} {m' : Md} {y : t'.den} {z : t.den}, setAt Alg.std t m x p t' m' y = some z → ∃ x', getAt Alg.std t m x p = some ⟨t', m', x'⟩
  | [], t, m, x, t', m', y, z, h => by
    have : setAt Alg.std t m x [] t' m' y = if m' = m then castD t' t y else none := by cases t <;> simp [setAt]
    rw [this] at h
    split at h
    · rename_i hm
      obtain ⟨e, _⟩ := castD_some h
      subst e
      subst hm
      exact ⟨x, by cases t' <;> simp [getAt]⟩
    · cases h
  | st :: p, t, m, x, t', m', y, z, h => by
    cases t with
    | pair a b =>
      cases st with
      | fst =>
        simp only [setAt] at h
        split at h
        · rename_i z' hz
          obtain ⟨x', hx⟩ := setAt_getAt p hz
          exact ⟨x', by simp only [getAt]; exact hx⟩
        · cases h
      | snd =>
        simp only [setAt] at h
        split at h
        · rename_i z' hz
          obtain ⟨x', hx⟩ := setAt_getAt p hz
          exact ⟨x', by simp only [getAt]; exact hx⟩
        · cases h
      | idx i => simp [setAt] at h
    | sl e =>
      cases st with
      | fst => cases m <;> simp [setAt] at h
      | snd => cases m <;> simp [setAt] at h
      | idx i =>
        cases m with
        | ow m1 =>
          simp only [setAt] at h
          split at h
          · rename_i z' hz
            obtain ⟨x', hx⟩ := setAt_getAt p hz
            exact ⟨x', by simp only [getAt]; exact hx⟩
          · cases h
        | _ => simp [setAt] at h
    | int k => cases st <;> simp [setAt] at h
    | bool => cases st <;> simp [setAt] at h
    | str => cases st <;> simp [setAt] at h
    | unit => cases st <;> simp [setAt] at h

section
variable {P : Program} {w0 w : World} {F0 : Bnd} {s : St} {a : Act} {I : Nat → Prop} {ρ : Nat → RC} {H : Heap} {o : Oper} {K : St → Prop} {Q : Exit → Act → World → Prop} {C : World → Prop}

theorem ok_load {t : TypeId} {x : Operand} (τ : Env) (G : Gam) (hE : EnvOk P τ) (hC : ∀ w', C w' → Keeps (fun _ => False) w w') (h : Inv w0 F0 s a w I ρ) (ho : o.op = .load t x) (hs : sat (stepOp Alg.std τ G o s) (fun _ s' => K s')) :
    Quiet P o a C (fun a' => Post w0 F0 K a' w) := by
  simp only [stepOp, ho] at hs
  split at hs
  · rename_i T hT
    have hF := hE.ty t T hT
    cases hx : Vee.ev Alg.std s x <;> rw [hx] at hs <;> first | exact hs.elim | skip
    case ptr r ver p => exact ok_load_ptr T hC hF h ho hx hs
    case bptr r off => exact ok_load_box T hC hF h ho hx hs
    case dptr t' y => exact ok_load_dptr T hC hF h ho hx hs
  · exact hs.elim

theorem Own.eqM {w : World} {I : Nat → Prop} : ∀ {t : Ty} {m n : Md} {cs : List Value} {x : t.den} {fp : List Nat}, Vee.eqM t m n = true → Own w I t m cs x fp → Own w I t n cs x fp
  | .int _, _, _, _, _, _, _, h => h
  | .bool, _, _, _, _, _, _, h => h
  | .str, _, _, _, _, _, _, h => h
  | .unit, _, _, _, _, _, _, h => h
  | .sl e, m, n, _, _, _, he, h => by
    have : m = n := by simpa [Vee.eqM] using he
    subst this
    exact h
  | .pair a b, m, n, _, _, _, he, h => by
    simp only [Vee.eqM, Bool.and_eq_true] at he
    obtain ⟨c1, c2, f1, f2, e1, e2, h1, h2⟩ := h
    exact ⟨c1, c2, f1, f2, e1, e2, Own.eqM he.1 h1, Own.eqM he.2 h2⟩

theorem ok_storeIn {t : TypeId} {x v : Operand} (h : Inv w0 F0 s a w I ρ) (ho : o.op = .store t x v) {T : Ty} (hF : (TyF P T).1 t) {r ver : Nat} {p : List Stp} (hx : VR w I ρ s.H (Vee.ev Alg.std s x) (a.eval x)) (hxe : Vee.ev Alg.std s x = .ptr r ver p)
    (hv : VR w I ρ s.H (Vee.ev Alg.std s v) (a.eval v)) {e : Ty} {m : Md} {xs : List e.den} {v0 : Nat} (hrow : rowAt s.H r ver (hops p - 1) = some ⟨e, m, xs, v0⟩) {m2 : Md} {k : Pk T} (hpk : packM Alg.std T m2 (cellsOf (Vee.ev Alg.std s v)) s.H = some k)
    {v' : Nat} {e' : Ty} {m' : Md} {xs' : List e'.den} (hkl : k.l = []) (hkr : hget k.H r = some (.row v' e' m' xs')) (heq : eqM T k.m m2 = true) {ys : List e.den} (hset : setAt Alg.std (.sl e) (.ow m) xs p T m2 k.x = some ys)
    (hs : sat (needs k.p (doneH s (k.H.set r (some (.row (if e.hasSl then v' + 1 else v') e m ys))) o.dst .junk)) (fun _ s' => K s')) : o.wp P a w (Post w0 F0 K) Q := by
  rw [hxe] at hx
  rw [sat_needs] at hs
  obtain ⟨hq, hs⟩ := hs
  obtain ⟨us, hu, hul, hc⟩ := hv.packed hpk hkl
  obtain ⟨u1, u2, fp2, e1, hv2, pk⟩ := packM_spec s.H h.rootsOf (fun _ _ h => h) hc hpk hq
  have hu2 : u2 = [] := List.eq_nil_of_length_eq_zero (by have := hv2.len; rw [hkl] at this; simpa using this.symm)
  subst hu2
  rw [List.append_nil] at e1
  subst e1
  obtain ⟨hr, hver⟩ := rowAt_spec hrow
  have hkr' := pk.sub _ _ hkr
  rw [hr] at hkr'
  cases hkr'
  have hI := h.sub pk.sub (Nat.le_of_eq pk.len.symm)
  cases hxu : a.eval x <;> rw [hxu] at hx <;> cases hx
  rename_i b off hrl hcc
  obtain ⟨hle, hw⟩ := hcc _ _ _ _ hr
  obtain ⟨t2, cs, hw⟩ := hw hver
  obtain ⟨x', hg⟩ := setAt_getAt p hset
  rcases walk_sl hw with ⟨rfl, he⟩ | ⟨i, q, _, _, _, _, _, _, _, rfl, _⟩
  · cases he
  · obtain ⟨b', off', fp1, arr0, et0, e1, e2, hown, hnd1, hsub1, hbn, hbin, hh0, hcs, hsz, hlens⟩ := hI.rowAt hkr hg hw
    cases e1
    subst e2
    have hlu : us.length = t2.sz := pk.own.len
    have hfit : off + us.length ≤ arr0.size := by omega
    have hst := run_storeVar' (TyF.base hF) hh0 hu hlu hc.one hfit
    have hsrc : ∀ b ∈ fp2, b ∉ (ρ r).fp ∧ ¬ I b ∧ (w0.heap.size ≤ b ∨ F0.wr b) ∧ ∀ r' o, r' ≠ r → hget k.H r' = some o → b ∉ tfp ρ r' o := fun b hb => by
      obtain ⟨r1, o1, g1, g2, g3⟩ := pk.src b hb
      have hne : r1 ≠ r := by rintro rfl; rw [g2] at hkr; cases hkr
      obtain ⟨k1, k2, k3⟩ := h.sep r1 o1 g1 b g3
      refine ⟨fun hh => h.disj r1 o1 r _ hne g1 hr b g3 (by simpa [tfp] using hh), k1, k3, fun r' o hr' hg' hb' => ?_⟩
      have hne2 : r1 ≠ r' := by rintro rfl; rw [g2] at hg'; cases hg'
      exact h.disj r1 o1 r' o hne2 g1 (pk.sub _ _ hg') b g3 hb'
    have hbI : ¬ I b := (h.sep r _ hr b (by simpa [tfp] using hbin)).1
    have hb2 : b ∉ fp2 := fun hh => (hsrc b hh).1 hbin
    have hown2 : Own (w.setRow b (lay arr0 off us)) I t2 m2 (seg (lay arr0 off us) off t2.sz) k.x fp2 := by
      rw [lay_seg hfit hlu]
      exact Own.frame (fun c hc => setRow_other w _ _ _ (fun hh => hbI (by rw [← hh]; exact hc))) (fun _ h => h) (pk.own.eqM heq) fun c hc => setRow_other w _ _ _ (fun hh => hb2 (by rw [← hh]; exact hc))
    obtain ⟨ρ', h', E⟩ := hlens (w.setRow b (lay arr0 off us)) _ et0 _ fp2 ys (Keeps.setRow w b _ _ (.inl rfl)) (setRow_heap w b arr0 _ et0 _ hh0) (lay_near hfit hlu) hown2 pk.nd (fun k hk => .inr (hsrc k hk)) hset
    refine wp_skip ?_ ⟨_, I, ρ', h'.put (.junk _) o.dst, hs⟩
    simp [execOp, ho, hxu, Instr.storeAt, Instr.sureAddr, hst]

theorem ok_store {t : TypeId} {x v : Operand} (τ : Env) (G : Gam) (hE : EnvOk P τ) (h : Inv w0 F0 s a w I ρ) (ho : o.op = .store t x v) (hs : sat (stepOp Alg.std τ G o s) (fun _ s' => K s')) :
    o.wp P a w (Post w0 F0 K) Q := by
  simp only [stepOp, ho] at hs
  split at hs
  · rename_i T hT
    have hF := hE.ty t T hT
    have hx := h.ev x
    have hv := h.ev v
    unfold storeOp at hs
    split at hs
    · rename_i r off hxe
      rw [hxe] at hx
      split at hs
      · rename_i cs hr
        split at hs
        · rename_i hfit
          split at hs
          · rename_i hsz
            obtain ⟨us, hu, hul, hc⟩ := hv.fit hfit
            have hle : off + (cellsOf (Vee.ev Alg.std s v)).length ≤ cs.length := by rw [hc.len, hul]; exact hsz
            obtain ⟨arr, et, hb, hin, h'⟩ := h.setBox hr off (cellsOf (Vee.ev Alg.std s v)) us hc.len hle hc.one hc.at_
            cases hxu : a.eval x <;> rw [hxu] at hx <;> cases hx
            have hst := run_storeVar' (TyF.base hF) hb hu hul hc.one hin
            refine wp_skip ?_ ⟨_, I, ρ, h'.put (.junk _) o.dst, hs⟩
            simp [execOp, ho, hxu, Instr.storeAt, Instr.sureAddr, hst]
          · exact hs.elim
        · exact hs.elim
      · exact hs.elim
    · rename_i r ver p hxe
      rw [hxe] at hx
      split at hs
      · rename_i e m xs v0 hrow
        split at hs
        · rename_i tq m2 xq hgq
          split at hs
          · rename_i k hpk
            split at hs
            · rename_i v' e' m' xs' hkl hkr
              split at hs
              · rename_i heq
                split at hs
                · rename_i ys hset
                  exact ok_storeIn h ho hF (h.ev x) hxe hv hrow hpk hkl hkr heq hset hs
                · exact hs.elim
              · exact hs.elim
            · exact hs.elim
          · exact hs.elim
        · exact hs.elim
      · exact hs.elim
    · exact hs.elim
  · exact hs.elim

theorem bytes_cells {H' : Heap} {m : Md} {ys : List Int} {cells : List Value} {fps : List (List Nat)} (h : PackedL w I ρ H H' (.int .u8) m ys cells fps) : cells = ys.map (Value.int .u8) ∧ ∀ n ∈ ys, 0 ≤ n ∧ n ≤ 255 := by
  have hl := h.len
  simp only [Ty.sz, Nat.mul_one] at hl
  have hj : ∀ j (hj : j < ys.length), cells[j]? = some (.int .u8 ys[j]) ∧ 0 ≤ ys[j] ∧ ys[j] ≤ 255 := fun j hj => by
    obtain ⟨h1, h2, _⟩ := h.own j hj
    simp only [Ty.sz, Nat.mul_one] at h1
    have h3 : ((cells.drop j).take 1)[0]? = some (.int .u8 ys[j]) := by rw [h1]; rfl
    rw [List.getElem?_take, if_pos (by omega), List.getElem?_drop] at h3
    refine ⟨by simpa using h3, ?_⟩
    simpa [IntKind.min, IntKind.max, IntKind.signed, IntKind.bits] using h2
  constructor
  · apply List.ext_getElem?
    intro j
    by_cases hlt : j < ys.length
    · rw [(hj j hlt).1]; simp [hlt]
    · rw [List.getElem?_eq_none (by omega), List.getElem?_eq_none (by simp; omega)]
  · intro n hn
    obtain ⟨j, hjl, rfl⟩ := List.getElem_of_mem hn
    exact (hj j hjl).2

theorem run_bytes_text {ys : List Int} {cells : List Value} {u : Value} (hsl : (∃ A n c, u = .slice A n c)) (hc : cells = ys.map (Value.int .u8)) (hs : Src P w 1 ys.length u cells) : (Conv.bytesToString u).run P w = .ok (.string (strOfNums ys)) w := by
  obtain ⟨A, n, c, rfl⟩ := hsl
  have hn : n = ys.length := by have := hs.len w; simpa [Builtin.lenOf] using this
  subst hn
  cases A with
  | none =>
    have := hs.now
    simp [Builtin.firstCells] at this
    rw [this] at hc
    have : ys = [] := by simpa using hc.symm
    subst this
    simp [Conv.bytesToString, strOfNums]
    rfl
  | some ad =>
    have := hs.now
    simp only [Builtin.firstCells, Nat.mul_one] at this
    rw [hc] at this
    rw [run_bytesToString w ad _ c ys this, foldl_push_bytes]
    simp [strOfNums, ByteArray.empty, ByteArray.emptyWithCapacity]
    rfl

theorem strOfNums_list {ys : List Int} (h : ∀ n ∈ ys, 0 ≤ n ∧ n ≤ 255) : ys = (strOfNums ys).data.toList.map fun b => (b.toNat : Int) := by
  simp only [strOfNums, List.map_map]
  symm
  rw [List.map_congr_left (g := id)]
  · simp
  · intro n hn
    have := h n hn
    simp only [Function.comp, id]
    rw [UInt8.toNat_ofNat']
    omega

/-- A number's conversion looks at no memory. -/
theorem ok_convertI {t0 t : TypeId} {x : Operand} (τ : Env) (G : Gam) (hE : EnvOk P τ) {k0 k1 : IntKind} (hT0 : τ.ty t0 = some (.int k0)) (hT : τ.ty t = some (.int k1)) (h : Inv w0 F0 s a w I ρ) (ho : o.op = .convert t0 t x) (hs : sat (stepOp Alg.std τ G o s) (fun _ s' => K s')) :
    Quiet P o a C (fun a' => Post w0 F0 K a' w) := by
  have hx := h.ev x
  simp only [stepOp, ho, hT0, hT] at hs
  split at hs
  · rename_i k n hxe
    rw [hxe] at hx
    obtain ⟨hu, hr⟩ := hx.int_inv
    have hun0 := (hE.ty t0 _ hT0).2
    have hun := (hE.ty t _ hT).2
    have hval : (if k = k1 then n else if k = .u8 ∧ k1 ≠ .i8 then n else Alg.std.wrapI k1 n) = k1.wrap n := by
      split
      · rename_i e; subst e; exact (wrap_in hr).symm
      · split
        · rename_i e
          obtain ⟨rfl, e2⟩ := e
          refine (wrap_in ?_).symm
          cases k1 <;> simp [IntKind.min, IntKind.max, IntKind.signed, IntKind.bits] at hr e2 ⊢ <;> omega
        · rfl
    rw [hval] at hs
    refine ok_done (u := .int k1 (k1.wrap n)) h ?_ (VR.int wrap_range) hs
    intro w' _
    simp [execOp, ho, hu, convert, run_underlying hun0, run_underlying hun, Conv.intToInt]
  · exact hs.elim

theorem ok_convert {t0 t : TypeId} {x : Operand} (τ : Env) (G : Gam) (hE : EnvOk P τ) (hC : ∀ w', C w' → Keeps (fun _ => False) w w') (h : Inv w0 F0 s a w I ρ) (ho : o.op = .convert t0 t x) (hs : sat (stepOp Alg.std τ G o s) (fun _ s' => K s')) :
    Quiet P o a C (fun a' => Post w0 F0 K a' w) := by
  have hx := h.ev x
  simp only [stepOp, ho] at hs
  split at hs
  · rename_i k0 k' hT0 hT
    split at hs
    · rename_i k n hxe
      rw [hxe] at hx
      obtain ⟨hu, hr⟩ := hx.int_inv
      have hun0 := (hE.ty t0 _ hT0).2
      have hun := (hE.ty t _ hT).2
      have hval : (if k = k' then n else if k = .u8 ∧ k' ≠ .i8 then n else Alg.std.wrapI k' n) = k'.wrap n := by
        split
        · rename_i e; subst e; exact (wrap_in hr).symm
        · split
          · rename_i e
            obtain ⟨rfl, e2⟩ := e
            refine (wrap_in ?_).symm
            cases k' <;> simp [IntKind.min, IntKind.max, IntKind.signed, IntKind.bits] at hr e2 ⊢ <;> omega
          · rfl
      rw [hval] at hs
      refine ok_done (u := .int k' (k'.wrap n)) h ?_ (VR.int wrap_range) hs
      intro w' _
      simp [execOp, ho, hu, convert, run_underlying hun0, run_underlying hun, Conv.intToInt]
    · exact hs.elim
  · rename_i hT0 hT
    split at hs
    · rename_i m ys H' hsrc
      obtain ⟨cells, fps, pk, src⟩ := srcM_spec (P := P) h hx hsrc (by simp)
      obtain ⟨hc, hr⟩ := bytes_cells pk
      obtain ⟨eid, hun0, hF, _⟩ := TyF.sl (hE.ty t0 _ hT0)
      have hun := (hE.ty t _ hT).2
      have hsl : ∃ A n c, a.eval x = .slice A n c ∨ ∃ b, a.eval x = .string b ∧ Vee.ev Alg.std s x = .dat .str ys := by
        cases hxe : Vee.ev Alg.std s x <;> rw [hxe] at hsrc hx
        case nilS => cases hu : a.eval x <;> rw [hu] at hx <;> cases hx; exact ⟨_, _, _, .inl rfl⟩
        case ref e r ver p lo n => cases hu : a.eval x <;> rw [hu] at hx <;> cases hx; exact ⟨_, _, _, .inl rfl⟩
        case dat t x =>
          cases t with
          | sl e => obtain ⟨A, c, hu, _⟩ := hx.sl_inv; exact ⟨A, _, c, .inl hu⟩
          | str =>
            simp only [srcM] at hsrc
            split at hsrc
            · rename_i y hy
              obtain ⟨e1, e2⟩ := castD_some hy
              cases hsrc
              change x = ys at e2
              subst e2
              obtain ⟨b, hu, _⟩ := hx.str_inv
              exact ⟨none, 0, 0, .inr ⟨b, hu, rfl⟩⟩
            · cases hsrc
          | _ => simp [srcM, castD] at hsrc
        all_goals simp [srcM] at hsrc
      have hlen : ys.length ≤ 9223372036854775807 := by
        obtain ⟨A, n, c, hu | ⟨b, hu, he⟩⟩ := hsl
        · have h1 := src.len w
          rw [hu] at h1
          have h2 : n = ys.length := by simpa [Builtin.lenOf] using h1
          rw [hu] at hx
          cases hxe : Vee.ev Alg.std s x <;> rw [hxe] at hsrc hx
          case nilS => cases hx; omega
          case ref e r ver p lo n => cases hx; omega
          case dat t x =>
            cases t with
            | sl e => obtain ⟨A, c, hu, hl, _⟩ := hx.sl_inv; cases hu; omega
            | str => obtain ⟨b, hu, _⟩ := hx.str_inv; cases hu
            | _ => simp [srcM, castD] at hsrc
          all_goals simp [srcM] at hsrc
        · rw [he] at hx
          obtain ⟨b', hu', h1, h2⟩ := hx.str_inv
          rw [h1, List.length_map]
          have : b'.data.toList.length = b'.size := Array.length_toList
          omega
      refine ok_done (u := .string (strOfNums ys)) h ?_ (VR.dat .str ys [.string (strOfNums ys)] ⟨⟨_, rfl, strOfNums_list hr, by simp [strOfNums, ByteArray.size]; exact hlen⟩, rfl⟩) hs
      intro w' hw'
      obtain ⟨A, n, c, hu | ⟨b, hu, he⟩⟩ := hsl
      · have h' := h.world (hC w' hw') (fun _ _ h => h) (fun _ _ _ _ _ h => h) (fun _ h => h.elim)
        obtain ⟨cells', fps', pk', src'⟩ := srcM_spec (P := P) h' (h'.ev x) hsrc (by simp)
        have hb := run_bytes_text (P := P) (w := w') ⟨A, n, c, hu⟩ (bytes_cells pk').1 src'
        rw [hu] at hb
        unfold execOp
        rw [ho]
        simp only [Sem.run_bind, hu]
        rw [run_convert_bytes_string w' t0 t eid A n c hun0 hF.2 hun, hb]
        simp
      · rw [he] at hx
        obtain ⟨b', hu', h1, h2⟩ := hx.str_inv
        rw [hu] at hu'
        cases hu'
        have e : strOfNums ys = b := by
          have := strOfNums_list hr
          rw [h1] at this
          have inj : ∀ (l k : List UInt8), (l.map (fun b => (b.toNat : Int)) = k.map fun b => (b.toNat : Int)) → l = k := by
            intro l
            induction l with
            | nil => intro k h; simpa using h.symm
            | cons x l ih =>
              intro k h
              cases k with
              | nil => simp at h
              | cons y k =>
                simp only [List.map_cons, List.cons.injEq] at h
                rw [ih k h.2, UInt8.toNat_inj.1 (by omega : x.toNat = y.toNat)]
          have := inj _ _ this
          rw [← h1] at this
          have h3 : b.data = (strOfNums ys).data := Array.toList_inj.1 this
          cases b
          cases hh : strOfNums ys
          rw [hh] at h3
          simp at h3
          rw [h3]
        rw [e]
        simp [execOp, ho, hu, convert, run_underlying hun0, run_underlying hun]
    · exact hs.elim
  · exact hs.elim

end
end Go.Vee

