import Derived.Test.YtcdlgemhmmkneaaVH8
set_option linter.unusedSimpArgs false
set_option linter.unusedVariables false
namespace Go.Vee
open Go

section
variable {P : Program} {w0 w : World} {F0 : Bnd} {s : St} {a : Act} {I : Nat → Prop} {ρ : Nat → RC} {H : Heap} {o : Oper} {K : St → Prop} {Q : Exit → Act → World → Prop}

/-! ## Packing -/
theorem castD_some {t t' : Ty} {x : t.den} {y : t'.den} (h : castD t t' x = some y) : ∃ e : t = t', e ▸ x = y := by
  unfold castD at h
  split at h
  · rename_i e; cases h; exact ⟨e, rfl⟩
  · cases h

theorem sat_needs {ps : List Prop} {k : Tr} {Q : Ex → St → Prop} : sat (needs ps k) Q ↔ (∀ p ∈ ps, p) ∧ sat k Q := by
  induction ps with
  | nil => simp [needs]
  | cons p ps ih => simp only [needs, sat, ih, List.forall_mem_cons, and_assoc]

/-- What packing hands over: data in the cells, its blocks taken from the roots that are gone. -/
structure Packed (w : World) (I : Nat → Prop) (ρ : Nat → RC) (H H' : Heap) (t : Ty) (m : Md) (x : t.den) (us : List Value) (fp : List Nat) : Prop where
  own : Own w I t m us x fp
  nd : fp.Nodup
  sub : ∀ r o, hget H' r = some o → hget H r = some o
  len : H'.length = H.length
  src : ∀ b ∈ fp, ∃ r o, hget H r = some o ∧ hget H' r = none ∧ b ∈ tfp ρ r o

theorem hget_set_none {r k : Nat} : hget (H.set r none) k = if k = r then none else hget H k := by
  unfold hget
  simp only [List.getD_eq_getElem?_getD, List.getElem?_set]
  by_cases h : r = k
  · subst h
    by_cases hl : r < H.length
    · simp [hl]
    · simp [hl]
  · simp [h, Ne.symm h]

/-- The roots' blocks, as the invariant has them. -/
structure Roots (w : World) (I : Nat → Prop) (ρ : Nat → RC) (H : Heap) : Prop where
  ok : ∀ r o, hget H r = some o → RootOk w I ρ H r o
  nodup : ∀ r o, hget H r = some o → (tfp ρ r o).Nodup
  disj : ∀ r o r' o', r ≠ r' → hget H r = some o → hget H r' = some o' → ∀ b ∈ tfp ρ r o, b ∉ tfp ρ r' o'
theorem Inv.rootsOf (h : Inv w0 F0 s a w I ρ) : Roots w I ρ s.H := ⟨h.roots, h.nodup, h.disj⟩

theorem Own.nil {e : Ty} (h : Md) : Own w I (.sl e) (nilM e h) [.slice none 0 0] [] [] := by
  cases h <;> first | exact ⟨by simp, rfl, none, 0, rfl, Nat.le_refl _, .inl rfl⟩ | exact ⟨by simp, .inl ⟨rfl, rfl, rfl⟩⟩

theorem packM_spec (HH : Heap) (R : Roots w I ρ HH) : ∀ {t : Ty} {hm : Md} {l : List AV} {H : Heap} {us : List Value} {k : Pk t},
    (∀ r o, hget H r = some o → hget HH r = some o) → VRs w I ρ HH l us → packM Alg.std t hm l H = some k → (∀ p ∈ k.p, p) →
    ∃ u1 u2 fp, us = u1 ++ u2 ∧ VRs w I ρ HH k.l u2 ∧ Packed w I ρ H k.H t k.m k.x u1 fp
  | .unit, hm, l, H, us, k, hH, hv, hp, _ => by
    simp [packM] at hp; subst hp
    exact ⟨[], us, [], rfl, hv, ⟨⟨rfl, rfl⟩, by simp, fun _ _ h => h, rfl, by simp⟩⟩
  | .pair x y, hm, l, H, us, k, hH, hv, hp, hq => by
    simp only [packM] at hp
    split at hp
    · rename_i k1 h1
      split at hp
      · rename_i k2 h2
        cases hp
        obtain ⟨u1, u2, f1, rfl, hv1, p1⟩ := packM_spec HH R hH hv h1 (fun p hp => hq p (by simp [hp]))
        obtain ⟨u3, u4, f2, rfl, hv2, p2⟩ := packM_spec HH R (fun r o h => hH r o (p1.sub r o h)) hv1 h2 (fun p hp => hq p (by simp [hp]))
        refine ⟨u1 ++ u3, u4, f1 ++ f2, by simp, hv2, ⟨⟨u1, u3, f1, f2, rfl, rfl, p1.own, p2.own⟩, ?_, fun r o h => p1.sub r o (p2.sub r o h), p2.len.trans p1.len, ?_⟩⟩
        · rw [List.nodup_append]
          refine ⟨p1.nd, p2.nd, fun b hb c hc hbc => ?_⟩
          subst hbc
          obtain ⟨r, o, g1, g2, g3⟩ := p1.src b hb
          obtain ⟨r', o', g4, g5, g6⟩ := p2.src b hc
          have hne : r ≠ r' := by rintro rfl; rw [g2] at g4; cases g4
          exact R.disj r o r' o' hne (hH _ _ g1) (hH _ _ (p1.sub _ _ g4)) b g3 g6
        · intro b hb
          rcases List.mem_append.1 hb with hb | hb
          · obtain ⟨r, o, g1, g2, g3⟩ := p1.src b hb
            refine ⟨r, o, g1, ?_, g3⟩
            cases hk : hget k2.H r with
            | none => rfl
            | some o' => have := p2.sub r o' hk; rw [g2] at this; cases this
          · obtain ⟨r, o, g1, g2, g3⟩ := p2.src b hb
            exact ⟨r, o, p1.sub r o g1, g2, g3⟩
      · cases hp
    · cases hp
  | .sl e, hm, [], H, us, k, hH, hv, hp, hq => by simp [packM] at hp
  | .sl e, hm, v :: l, H, us, k, hH, hv, hp, hq => by
    have hlen := hv.len
    match us, hlen, hv with
    | u :: us, _, hv =>
    have hvu := hv.at_ 0 v u rfl rfl
    have htl : VRs w I ρ HH l us := hv.drop 1
    clear hlen hv
    simp only [packM] at hp
    split at hp
    · rename_i t x
      split at hp
      · rename_i y hy
        cases hp
        obtain ⟨e1, e2⟩ := castD_some hy
        subst e1
        subst e2
        obtain ⟨cs, ho, rfl⟩ := hvu.dat_inv
        have h1 := ho
        obtain ⟨_, _, A, c, rfl, _, _⟩ := h1
        exact ⟨[_], us, [], rfl, htl, ⟨ho, by simp, fun _ _ h => h, rfl, by simp⟩⟩
      · cases hp
    · cases hp
      cases hvu
      exact ⟨[_], us, [], rfl, htl, ⟨Own.nil _, by simp, fun _ _ h => h, rfl, by simp⟩⟩
    · rename_i e0 r ver n _
      split at hp
      · rename_i v0 e' m x hr
        split at hp
        · rename_i y hy
          cases hp
          obtain ⟨e1, e2⟩ := castD_some hy
          cases e1
          subst e2
          have hn : n = List.length x := hq (Alg.std.EqN n (Alg.std.lenL x)) (List.mem_singleton.2 rfl)
          have hrH := hH _ _ hr
          cases hvu
          rename_i A c hrl hn' hnc hc _
          obtain ⟨_, hw⟩ := hc _ _ _ _ hrH
          obtain ⟨B, c0, len, l', hw, q1, q2, q3⟩ := hw (.inl rfl)
          have hown : Own w I (.sl e) (.ow m) [(ρ r).hdr] x (ρ r).fp := R.ok r _ hrH
          have hhdr : (ρ r).hdr = .slice B len c0 ∧ e = e0 := by
            simp [walk] at hw; exact ⟨hw.2.1, hw.1⟩
          obtain ⟨hhdr, rfl⟩ := hhdr
          have hlx : len = List.length x := by
            rw [hhdr] at hown
            rcases hown.2 with ⟨he, hx, _⟩ | ⟨b, c, arr, et, fps, he, _⟩
            · simp at he; simp [he, hx]
            · simp at he; exact he.2.1
          obtain ⟨rfl, rfl⟩ := q3 ⟨rfl, by omega⟩
          refine ⟨[.slice A n c], us, (ρ r).fp, rfl, htl, ⟨?_, R.nodup r _ hrH, fun k o hk => ?_, by simp, fun b hb => ⟨r, _, hr, by rw [hget_set_none, if_pos rfl], by simpa [tfp] using hb⟩⟩⟩
          · rw [hhdr] at hown
            rw [show n = len by omega]
            exact hown
          · rw [hget_set_none] at hk
            split at hk
            · cases hk
            · exact hk
        · cases hp
      · cases hp
    · cases hp
  | .int k0, hm, [], H, us, k, hH, hv, hp, hq => by simp [packM] at hp
  | .int k0, hm, v :: l, H, us, k, hH, hv, hp, hq => by
    have hlen := hv.len
    match us, hlen with
    | u :: us, _ =>
    have hvu := hv.at_ 0 v u rfl rfl
    have htl : VRs w I ρ HH l us := hv.drop 1
    cases v with
    | dat t x =>
      simp only [packM] at hp
      split at hp
      · rename_i y hy
        cases hp
        obtain ⟨e1, e2⟩ := castD_some hy
        subst e1
        subst e2
        obtain ⟨rfl, h2⟩ := hvu.int_inv
        exact ⟨[_], us, [], rfl, htl, ⟨⟨rfl, h2, rfl⟩, by simp, fun _ _ h => h, rfl, by simp⟩⟩
      · cases hp
    | _ => simp [packM] at hp
  | .bool, hm, [], H, us, k, hH, hv, hp, hq => by simp [packM] at hp
  | .bool, hm, v :: l, H, us, k, hH, hv, hp, hq => by
    have hlen := hv.len
    match us, hlen with
    | u :: us, _ =>
    have hvu := hv.at_ 0 v u rfl rfl
    have htl : VRs w I ρ HH l us := hv.drop 1
    cases v with
    | dat t x =>
      simp only [packM] at hp
      split at hp
      · rename_i y hy
        cases hp
        obtain ⟨e1, e2⟩ := castD_some hy
        subst e1
        subst e2
        have := hvu.bool_inv
        subst this
        exact ⟨[_], us, [], rfl, htl, ⟨⟨rfl, rfl⟩, by simp, fun _ _ h => h, rfl, by simp⟩⟩
      · cases hp
    | lb b =>
      simp [packM] at hp; subst hp
      have := lb_dat hvu
      subst this
      exact ⟨[_], us, [], rfl, htl, ⟨⟨rfl, rfl⟩, by simp, fun _ _ h => h, rfl, by simp⟩⟩
    | _ => simp [packM] at hp
  | .str, hm, [], H, us, k, hH, hv, hp, hq => by simp [packM] at hp
  | .str, hm, v :: l, H, us, k, hH, hv, hp, hq => by
    have hlen := hv.len
    match us, hlen with
    | u :: us, _ =>
    have hvu := hv.at_ 0 v u rfl rfl
    have htl : VRs w I ρ HH l us := hv.drop 1
    cases v with
    | dat t x =>
      simp only [packM] at hp
      split at hp
      · rename_i y hy
        cases hp
        obtain ⟨e1, e2⟩ := castD_some hy
        subst e1
        subst e2
        obtain ⟨b, rfl, h1, h2⟩ := hvu.str_inv
        exact ⟨[_], us, [], rfl, htl, ⟨⟨⟨b, rfl, h1, h2⟩, rfl⟩, by simp, fun _ _ h => h, rfl, by simp⟩⟩
      · cases hp
    | _ => simp [packM] at hp

end
end Go.Vee
